/- Seat 07: a disk's clone; sectors of one byte; the document's disk. -/
import Derived.Test.YthhipekbkodjoaaD
namespace Go.Proofs.Ythhipekbkodjoaa
open Go.AX
set_option maxRecDepth 100000
theorem clw0  : runF (envOf tab [] [] [] []) true Try.f35 [.dat (.slc s67 [])] [] =some ([.dat (.slc (s67) [])], []) := by kernel_rfl
theorem clw1 (d : D) (ds : List D) : runF (envOf tab [] [] [] []) true Try.f35 [.dat (.slc s67 (d :: ds))] [] =
  (bif fits (s67) (d :: ds) then
   (bif decide ((0 + List.length (d :: ds)) * 136 ≤ 35184372088832) then
    (bif Nat.beq (List.length (d :: ds)) (0 + List.length (d :: ds)) then some ([.dat (.slc (s67) (seg (d :: ds) 0 (0 + List.length (d :: ds))))], []) else none) else none) else none) := by kernel_rfl
theorem clwO1 (d : D) (ds : List D) : runF (envOf tab [] [] [] []) false Try.f35 [.dat (.slc s67 (d :: ds))] [] =
  (bif fits (s67) (d :: ds) then
   (bif decide ((0 + List.length (d :: ds)) * 136 ≤ 35184372088832) then some ([AV.sref (s67) 0 (0 + List.length (d :: ds)) [] 0 (0 + List.length (d :: ds))], [{ sh := Sh.arr (s67) 0, dyn := true, frz := false, v := .dat (.arr (s67) (d :: ds)) }]) else none) else none) := by kernel_rfl
def S_clw : FunT := fun args σ => match args, σ with
  | [.dat (.slc (.agg [.one, .arr .one 128]) ds)], [] => .chk (fits (.agg [.one, .arr .one 128]) ds && decide (ds.length * 136 ≤ LIM)) (.leaf ([.dat (.slc (.agg [.one, .arr .one 128]) ds)], []))
  | _, _ => .fail
theorem clw_ok : FunOk Try.prog 35 (FunT.run S_clw) := by
  refine fun_ok (E := envOf tab [] [] [] []) (fz := true) (fn := Try.f35) (envOf_ok progOk (.nil _)) (by kernel_rfl) (by kernel_rfl) (loops_none (by kernel_rfl)) ?_
  intro args σ r h
  unfold S_clw at h
  split at h
  · rename_i ds
    obtain ⟨hc, h'⟩ := T.chk_some h
    rw [← T.leaf_some h']
    simp only [Bool.and_eq_true, decide_eq_true_eq] at hc
    cases ds with
    | nil => exact clw0
    | cons d ds =>
      rw [clw1, hc.1, Nat.zero_add, decide_eq_true (show (d :: ds).length * 136 ≤ 35184372088832 from hc.2), beq_self, seg_full]; rfl
  · simp [T.run_fail] at h
def S_clwO : FunT := fun args σ => match args, σ with
  | [.dat (.slc (.agg [.one, .arr .one 128]) ds)], [] => .chk (!ds.isEmpty && fits (.agg [.one, .arr .one 128]) ds && decide (ds.length * 136 ≤ LIM)) (.leaf ([.sref (.agg [.one, .arr .one 128]) 0 ds.length [] 0 ds.length], [mkDyn (.agg [.one, .arr .one 128]) ds]))
  | _, _ => .fail
theorem clwO_ok : FunOk Try.prog 35 (FunT.run S_clwO) := by
  refine fun_ok (E := envOf tab [] [] [] []) (fz := false) (fn := Try.f35) (envOf_ok progOk (.nil _)) (by kernel_rfl) (by kernel_rfl) (loops_none (by kernel_rfl)) ?_
  intro args σ r h
  unfold S_clwO at h
  split at h
  · rename_i ds
    obtain ⟨hc, h'⟩ := T.chk_some h
    rw [← T.leaf_some h']
    simp only [Bool.and_eq_true, decide_eq_true_eq] at hc
    cases ds with
    | nil => simp at hc
    | cons d ds => rw [clwO1, hc.1.2, Nat.zero_add, decide_eq_true (show (d :: ds).length * 136 ≤ 35184372088832 from hc.2)]; rfl
  · simp [T.run_fail] at h
def C_clwB : FunT := fun args σ => match args, σ with
  | [.dat (.slc (.agg [.one, .arr .one 128]) [])], [] => .leaf ([.dat (.slc (.agg [.one, .arr .one 128]) [])], [])
  | [.dat (.slc (.agg [.one, .arr .one 128]) (d :: ds))], [] => .chk (fits (.agg [.one, .arr .one 128]) (d :: ds) && decide ((d :: ds).length * 136 ≤ LIM)) (.leaf ([.sref (.agg [.one, .arr .one 128]) 0 (d :: ds).length [] 0 (d :: ds).length], [mkDyn (.agg [.one, .arr .one 128]) (d :: ds)]))
  | _, _ => .fail
theorem cclwB_ok : FunOk Try.prog 35 (FunT.run C_clwB) := by
  intro w S m σ args vals res σ' hi hv hr
  unfold FunT.run C_clwB at hr
  split at hr
  · exact clw_ok w S m _ _ vals res σ' hi hv hr
  · refine clwO_ok w S m _ _ vals res σ' hi hv ?_
    exact hr
  · simp [T.run_fail] at hr
def clb_pre (m : Nat) (k : Nat) (sf : List D) : Bool := !Nat.beq k 0 && (Nat.beq (List.length sf) m && (fits (Sh.arr Sh.one 128) (seg sf 0 k) && decide ((0 + List.length (seg sf 0 k)) * 128 ≤ 35184372088832)))
def C_clb : FunT := fun args σ => match args, σ with
  | [AV.sref (Sh.arr Sh.one 128) 0 m [] 0 k], [{ sh := Sh.arr (Sh.arr Sh.one 128) 0, dyn := true, frz := false, v := AV.dat (D.arr (Sh.arr Sh.one 128) sf) }] => .chk ((clb_pre m k sf)) (.leaf ([AV.sref (Sh.arr Sh.one 128) 1 (0 + List.length (seg sf 0 k)) [] 0 (0 + List.length (seg sf 0 k))], [{ sh := Sh.arr (Sh.arr Sh.one 128) 0, dyn := true, frz := false, v := AV.dat (D.arr (Sh.arr Sh.one 128) sf) }, { sh := Sh.arr (Sh.arr Sh.one 128) 0, dyn := true, frz := false, v := AV.dat (D.arr (Sh.arr Sh.one 128) (seg sf 0 k)) }]))
  | _, _ => .fail
theorem clb_raw0 (m k : Nat) (sf : List D) : runF (envOf tab [] [] [] []) false Try.f34 [.sref (.arr .one 128) 0 m [] 0 k] [mkDyn (.arr .one 128) sf] =
  (bif Nat.beq k 0 then none else
   (bif Nat.beq (List.length sf) m then
    (bif fits (Sh.arr Sh.one 128) (seg sf 0 k) then
     (bif decide ((0 + List.length (seg sf 0 k)) * 128 ≤ 35184372088832) then some ([AV.sref (Sh.arr Sh.one 128) 1 (0 + List.length (seg sf 0 k)) [] 0 (0 + List.length (seg sf 0 k))], [{ sh := Sh.arr (Sh.arr Sh.one 128) 0, dyn := true, frz := false, v := .dat (.arr (Sh.arr Sh.one 128) sf) }, { sh := Sh.arr (Sh.arr Sh.one 128) 0, dyn := true, frz := false, v := .dat (.arr (Sh.arr Sh.one 128) (seg sf 0 k)) }]) else none) else none) else none)) := by kernel_rfl
theorem clb_case0 (m k : Nat) (sf : List D) : runF (envOf tab [] [] [] []) false Try.f34 [.sref (.arr .one 128) 0 m [] 0 k] [mkDyn (.arr .one 128) sf] = FunT.run C_clb [.sref (.arr .one 128) 0 m [] 0 k] [mkDyn (.arr .one 128) sf] := (clb_raw0 m k sf).trans (by
  show _ = (cond (!Nat.beq k 0 && (Nat.beq (List.length sf) m && (fits (Sh.arr Sh.one 128) (seg sf 0 k) && decide ((0 + List.length (seg sf 0 k)) * 128 ≤ 35184372088832)))) (some (([AV.sref (Sh.arr Sh.one 128) 1 (0 + List.length (seg sf 0 k)) [] 0 (0 + List.length (seg sf 0 k))], [{ sh := Sh.arr (Sh.arr Sh.one 128) 0, dyn := true, frz := false, v := .dat (.arr (Sh.arr Sh.one 128) sf) }, { sh := Sh.arr (Sh.arr Sh.one 128) 0, dyn := true, frz := false, v := .dat (.arr (Sh.arr Sh.one 128) (seg sf 0 k)) }]) : Res)) none)
  generalize (decide ((0 + List.length (seg sf 0 k)) * 128 ≤ 35184372088832)) = z0
  generalize (fits (Sh.arr Sh.one 128) (seg sf 0 k)) = z1
  generalize (Nat.beq k 0) = z2
  generalize (Nat.beq (List.length sf) m) = z3
  cases z2 with
  | true =>
   rfl
  | false =>
   cases z3 with
   | true =>
    cases z1 with
    | true =>
     cases z0 with
     | true =>
      rfl
     | false =>
      rfl
    | false =>
     rfl
   | false =>
    rfl
  )
theorem cclb_ok : FunOk Try.prog 34 (FunT.run C_clb) := by
  refine fun_ok (E := envOf tab [] [] [] []) (fz := false) (fn := Try.f34) (envOf_ok progOk (.nil _)) (by kernel_rfl) (by kernel_rfl) (loops_none (by kernel_rfl)) ?_
  intro args σ r h
  unfold C_clb at h
  split at h
  · exact (clb_case0 _ _ _).trans h
  · simp [T.run_fail] at h
abbrev SpE : Specs := [(27, C_made), (34, C_clb), (35, S_clw)]
theorem SpE_ok : SpecsOk Try.prog SpE := .cons cmade_ok (.cons cclb_ok (.cons clw_ok (.nil _)))
def clone_pre (m : Nat) (k : Nat) (ws : List D) (sf : List D) (f : Int) (u : Bool) : Bool := clb_pre m k sf && (D.eqb (D.slc (s67) ws) (D.slc (s67) ws) && (fits (s67) ws && decide (List.length ws * 136 ≤ 35184372088832) && (D.eqb (D.int .i64 f) (D.int .i64 f) && (D.eqb (D.int .i64 f) (D.int .i64 f) && true) && (D.eqb (D.bool u) (D.bool u) && (D.eqb (D.bool u) (D.bool u) && true)))))
def C_clone : FunT := fun args σ => match args, σ with
  | [AV.ptr (Sh.agg [Sh.one, Sh.one, Sh.one, Sh.one]) 0 0 []], [{ sh := Sh.agg [Sh.one, Sh.one, Sh.one, Sh.one], dyn := false, frz := false, v := AV.agg [AV.sref (Sh.arr Sh.one 128) 1 m [] 0 k, AV.dat (D.slc (Sh.agg [Sh.one, Sh.arr Sh.one 128]) ws), AV.dat (D.int IntKind.i64 f), AV.dat (D.bool u)] }, { sh := Sh.arr (Sh.arr Sh.one 128) 0, dyn := true, frz := false, v := AV.dat (D.arr (Sh.arr Sh.one 128) sf) }] =>
    .br (made_v0 k) (.chk ((clone_pre m k ws sf f u)) (.leaf ([AV.ptr (s61) 2 0 []], [{ sh := s61, dyn := false, frz := false, v := AV.agg [AV.sref (Sh.arr Sh.one 128) 1 m [] 0 k, .dat (.slc (s67) ws), .dat (.int .i64 f), .dat (.bool u)] }, { sh := Sh.arr (Sh.arr Sh.one 128) 0, dyn := true, frz := false, v := .dat (.arr (Sh.arr Sh.one 128) sf) }, { sh := s61, dyn := false, frz := false, v := AV.agg [AV.sref (Sh.arr Sh.one 128) 3 (0 + List.length (seg sf 0 k)) [] 0 (0 + List.length (seg sf 0 k)), .dat (.slc (s67) ws), .dat (.int .i64 f), .dat (.bool u)] }, { sh := Sh.arr (Sh.arr Sh.one 128) 0, dyn := true, frz := false, v := .dat (.arr (Sh.arr Sh.one 128) (seg sf 0 k)) }]))) (.leaf ([AV.dat D.nilp], [{ sh := s61, dyn := false, frz := false, v := AV.agg [AV.sref (Sh.arr Sh.one 128) 1 m [] 0 k, .dat (.slc (s67) ws), .dat (.int .i64 f), .dat (.bool u)] }, { sh := Sh.arr (Sh.arr Sh.one 128) 0, dyn := true, frz := false, v := .dat (.arr (Sh.arr Sh.one 128) sf) }]))
  | [AV.dat D.nilp], [] => .leaf ([AV.dat D.nilp], [])
  | _, _ => .fail
theorem clone_raw0 (m k : Nat) (ws sf : List D) (f : Int) (u : Bool) : runF (envOf tab SpE [34] [] []) false Try.f23 [dP] [dB m k ws f u, sB sf] =
  (bif !made_v0 k then some ([AV.dat D.nilp], [{ sh := s61, dyn := false, frz := false, v := AV.agg [AV.sref (Sh.arr Sh.one 128) 1 m [] 0 k, .dat (.slc (s67) ws), .dat (.int .i64 f), .dat (.bool u)] }, { sh := Sh.arr (Sh.arr Sh.one 128) 0, dyn := true, frz := false, v := .dat (.arr (Sh.arr Sh.one 128) sf) }]) else
   (bif clb_pre m k sf then
    (bif D.eqb (D.slc (s67) ws) (D.slc (s67) ws) && true then
     (bif fits (s67) ws && decide (List.length ws * 136 ≤ 35184372088832) then
      (bif D.eqb (D.int .i64 f) (D.int .i64 f) && (D.eqb (D.int .i64 f) (D.int .i64 f) && true) then
       (bif D.eqb (D.bool u) (D.bool u) && (D.eqb (D.bool u) (D.bool u) && true) then some ([AV.ptr (s61) 2 0 []], [{ sh := s61, dyn := false, frz := false, v := AV.agg [AV.sref (Sh.arr Sh.one 128) 1 m [] 0 k, .dat (.slc (s67) ws), .dat (.int .i64 f), .dat (.bool u)] }, { sh := Sh.arr (Sh.arr Sh.one 128) 0, dyn := true, frz := false, v := .dat (.arr (Sh.arr Sh.one 128) sf) }, { sh := s61, dyn := false, frz := false, v := AV.agg [AV.sref (Sh.arr Sh.one 128) 3 (0 + List.length (seg sf 0 k)) [] 0 (0 + List.length (seg sf 0 k)), .dat (.slc (s67) ws), .dat (.int .i64 f), .dat (.bool u)] }, { sh := Sh.arr (Sh.arr Sh.one 128) 0, dyn := true, frz := false, v := .dat (.arr (Sh.arr Sh.one 128) (seg sf 0 k)) }]) else none) else none) else none) else none) else none)) := by kernel_rfl
theorem clone_case0 (m k : Nat) (ws sf : List D) (f : Int) (u : Bool) : runF (envOf tab SpE [34] [] []) false Try.f23 [dP] [dB m k ws f u, sB sf] = FunT.run C_clone [dP] [dB m k ws f u, sB sf] := (clone_raw0 m k ws sf f u).trans (by
  show _ = (cond (made_v0 k) (cond (clb_pre m k sf && (D.eqb (D.slc (s67) ws) (D.slc (s67) ws) && (fits (s67) ws && decide (List.length ws * 136 ≤ 35184372088832) && (D.eqb (D.int .i64 f) (D.int .i64 f) && (D.eqb (D.int .i64 f) (D.int .i64 f) && true) && (D.eqb (D.bool u) (D.bool u) && (D.eqb (D.bool u) (D.bool u) && true)))))) (some (([AV.ptr (s61) 2 0 []], [{ sh := s61, dyn := false, frz := false, v := AV.agg [AV.sref (Sh.arr Sh.one 128) 1 m [] 0 k, .dat (.slc (s67) ws), .dat (.int .i64 f), .dat (.bool u)] }, { sh := Sh.arr (Sh.arr Sh.one 128) 0, dyn := true, frz := false, v := .dat (.arr (Sh.arr Sh.one 128) sf) }, { sh := s61, dyn := false, frz := false, v := AV.agg [AV.sref (Sh.arr Sh.one 128) 3 (0 + List.length (seg sf 0 k)) [] 0 (0 + List.length (seg sf 0 k)), .dat (.slc (s67) ws), .dat (.int .i64 f), .dat (.bool u)] }, { sh := Sh.arr (Sh.arr Sh.one 128) 0, dyn := true, frz := false, v := .dat (.arr (Sh.arr Sh.one 128) (seg sf 0 k)) }]) : Res)) none) (some (([AV.dat D.nilp], [{ sh := s61, dyn := false, frz := false, v := AV.agg [AV.sref (Sh.arr Sh.one 128) 1 m [] 0 k, .dat (.slc (s67) ws), .dat (.int .i64 f), .dat (.bool u)] }, { sh := Sh.arr (Sh.arr Sh.one 128) 0, dyn := true, frz := false, v := .dat (.arr (Sh.arr Sh.one 128) sf) }]) : Res)))
  generalize (fits (s67) ws && decide (List.length ws * 136 ≤ 35184372088832)) = z0
  generalize (D.eqb (D.slc (s67) ws) (D.slc (s67) ws)) = z1
  generalize (D.eqb (D.int .i64 f) (D.int .i64 f) && (D.eqb (D.int .i64 f) (D.int .i64 f) && true)) = z2
  generalize (D.eqb (D.bool u) (D.bool u) && (D.eqb (D.bool u) (D.bool u) && true)) = z3
  generalize (clb_pre m k sf) = z4
  generalize (made_v0 k) = z5
  cases z5 with
  | true =>
   cases z4 with
   | true =>
    cases z1 with
    | true =>
     cases z0 with
     | true =>
      cases z2 with
      | true =>
       cases z3 with
       | true =>
        rfl
       | false =>
        rfl
      | false =>
       rfl
     | false =>
      rfl
    | false =>
     rfl
   | false =>
    rfl
  | false =>
   rfl
  )
theorem clone_raw1  : runF (envOf tab SpE [34] [] []) false Try.f23 [.dat .nilp] [] =some ([AV.dat D.nilp], []) := by kernel_rfl
theorem clone_case1  : runF (envOf tab SpE [34] [] []) false Try.f23 [.dat .nilp] [] = FunT.run C_clone [.dat .nilp] [] := (clone_raw1).trans (by
  show _ = (some (([AV.dat D.nilp], []) : Res))
  rfl
  )
theorem cclone_ok : FunOk Try.prog 23 (FunT.run C_clone) := by
  refine fun_ok (E := envOf tab SpE [34] [] []) (fz := false) (fn := Try.f23) (envOf_ok progOk SpE_ok) (by kernel_rfl) (by kernel_rfl) (loops_none (by kernel_rfl)) ?_
  intro args σ r h
  unfold C_clone at h
  split at h
  · exact (clone_case0 _ _ _ _ _ _).trans h
  · exact (clone_case1).trans h
  · simp [T.run_fail] at h
def fi_fr (c : Int) : (Int × List D) → Frame' := fun ⟨i, _⟩ => mkF 17 [(0, .dat (.int .u8 c)), (3, .sref .one 0 128 [] 0 128), (4, .dat (.int .i64 i))]
def fi_st (_c : Int) : (Int × List D) → Store := fun ⟨_, b⟩ => [⟨.arr .one 0, true, false, .dat (.arr .one b)⟩]
def fi_step (c : Int) : (Int × List D) → T ((Int × List D) ⊕ LOut) := fun ⟨i, b⟩ =>
  .chk (!decide (i < 128) || decide (0 ≤ i) && (Nat.beq (List.length b) 128 && (decide (0 + Int.toNat i < List.length b) && Sh.eqb (D.shape (nthD b (0 + Int.toNat i))) Sh.one))) (
   .br (!decide (i < 128)) (.leaf (.inr ((some 0), mkF 17 [(3, AV.sref Sh.one 0 128 [] 0 128)], [{ sh := Sh.arr Sh.one 0, dyn := true, frz := false, v := .dat (.arr Sh.one b) }]))) (.leaf (.inl ((IntKind.wrap IntKind.i64 (i + 1)), (List.set b (0 + Int.toNat i) (D.int IntKind.u8 c))))))
theorem fi_round (lp : Loops) (c : Int) (i : Int) (b : List D) (K : Kt) : oneRound (envOf tab [] [] lp []) Try.f24 0 (1) (mkF 17 [(0, .dat (.int .u8 c)), (3, .sref .one 0 128 [] 0 128), (4, .dat (.int .i64 i))]) ([⟨.arr .one 0, true, false, .dat (.arr .one b)⟩]) K =
  (bif decide (i < 128) then
   (bif decide (0 ≤ i) then
    (bif decide (i < 128) then
     (bif Nat.beq (List.length b) 128 && true && true && true then
      (bif decide (0 + Int.toNat i < List.length b) then
       (bif Sh.eqb (D.shape (nthD b (0 + Int.toNat i))) Sh.one then K (Exit.normal) (mkF 17 [(0, .dat (.int IntKind.u8 c)), (3, AV.sref Sh.one 0 128 [] 0 128), (4, .dat (.int .i64 (IntKind.wrap IntKind.i64 (i + 1)))), (10, .dat (.int .i64 i)), (11, .dat (.int .i64 (IntKind.wrap IntKind.i64 (i + 1))))]) ([{ sh := Sh.arr Sh.one 0, dyn := true, frz := false, v := .dat (.arr Sh.one (List.set b (0 + Int.toNat i) (D.int IntKind.u8 c))) }]) else none) else none) else none) else none) else none) else K (Exit.exit 0) (mkF 17 [(3, AV.sref Sh.one 0 128 [] 0 128)]) ([{ sh := Sh.arr Sh.one 0, dyn := true, frz := false, v := .dat (.arr Sh.one b) }])) := by kernel_rfl
theorem fi_hr (lp : Loops) (c : Int) : ∀ (sA : (Int × List D)) (K : Kt) (N : (Int × List D) → Option Res), (∀ sB fr' σ', cleanF (liveAt Try.f24 0) 0 fr' = fi_fr c sB → trim (1) (fi_fr c sB) σ' = fi_st c sB → K .normal fr' σ' = N sB) →
    oneRound (envOf tab [] [] lp []) Try.f24 0 (1) (fi_fr c sA) (fi_st c sA) K = (fi_step c sA).k (LK K N) := by
  intro sA K N hN
  obtain ⟨i, b⟩ := sA
  refine (fi_round lp c i b K).trans ?_
  show _ = T.k ((
  .chk (!decide (i < 128) || decide (0 ≤ i) && (Nat.beq (List.length b) 128 && (decide (0 + Int.toNat i < List.length b) && Sh.eqb (D.shape (nthD b (0 + Int.toNat i))) Sh.one))) (
   .br (!decide (i < 128)) (.leaf (.inr ((some 0), mkF 17 [(3, AV.sref Sh.one 0 128 [] 0 128)], [{ sh := Sh.arr Sh.one 0, dyn := true, frz := false, v := .dat (.arr Sh.one b) }]))) (.leaf (.inl ((IntKind.wrap IntKind.i64 (i + 1)), (List.set b (0 + Int.toNat i) (D.int IntKind.u8 c))))))) : T ((Int × List D) ⊕ LOut)) (LK K N)
  generalize (decide (0 + Int.toNat i < List.length b)) = z0
  generalize (Sh.eqb (D.shape (nthD b (0 + Int.toNat i))) Sh.one) = z1
  generalize (decide (i < 128)) = z2
  generalize (decide (0 ≤ i)) = z3
  generalize (Nat.beq (List.length b) 128) = z4
  cases z2 with
  | true =>
   cases z3 with
   | true =>
    cases z4 with
    | true =>
     cases z0 with
     | true =>
      cases z1 with
      | true =>
       exact hN _ _ _ (by kernel_rfl) (by kernel_rfl)
      | false =>
       rfl
     | false =>
      rfl
    | false =>
     rfl
   | false =>
    rfl
  | false =>
   rfl
theorem fi_enter (c : Int) (i : Int) (b : List D) (fr : Frame') (hl : Nat.beq fr.length 17 = true) (g0 : fr.getD 0 .undef = .dat (.int IntKind.u8 c)) (g3 : fr.getD 3 .undef = AV.sref Sh.one 0 128 [] 0 128) (g4 : fr.getD 4 .undef = .dat (.int .i64 i)) : cleanF (liveAt Try.f24 0) 0 fr = fi_fr c (i, b) := by
  have e : liveAt Try.f24 0 = [0, 4, 3] := by kernel_rfl
  rw [clean_mk (Nat.eq_of_beq_eq_true hl), e]
  show mkF 17 [(0, fr.getD 0 .undef), (4, fr.getD 4 .undef), (3, fr.getD 3 .undef)] = _
  rw [g0, g4, g3]
  kernel_rfl
def fillL (c : Int) : List D := List.replicate 128 (.int .u8 c)
theorem fi_closed (c : Int) (b0 : List D) (hc : D.eqbL b0 (List.replicate 128 (.int .u8 0)) = true) :
    ∃ z, (iterT (fi_step c) z (0, b0)).run = T.run (.leaf (some 0, mkF 17 [(3, .sref .one 0 128 [] 0 128)], [⟨.arr .one 0, true, false, .dat (.arr .one (fillL c))⟩])) := by
  have hb := D.eqL_of_eqb hc
  subst hb
  have hg : ∀ i, i ≤ 128 → (List.replicate i (D.int .u8 c) ++ List.replicate (128 - i) (D.int .u8 0)).length = 128 := fun i hi => by rw [List.length_append, List.length_replicate, List.length_replicate]; omega
  refine iter_range (n := 128) (fun i => List.replicate i (D.int .u8 c) ++ List.replicate (128 - i) (D.int .u8 0)) (fun i hi => ?_) ?_
  · have hn : nthD (List.replicate i (D.int .u8 c) ++ List.replicate (128 - i) (D.int .u8 0)) i = .int .u8 0 := by
      unfold nthD
      rw [List.getD_eq_getElem?_getD, List.getElem?_append_right (by rw [List.length_replicate]; exact Nat.le_refl _), List.length_replicate, Nat.sub_self, List.getElem?_replicate, if_pos (by omega)]
      rfl
    have hs : (List.replicate i (D.int .u8 c) ++ List.replicate (128 - i) (D.int .u8 0)).set i (.int .u8 c) = List.replicate (i + 1) (.int .u8 c) ++ List.replicate (128 - (i + 1)) (.int .u8 0) := by
      rw [List.set_append, List.length_replicate, if_neg (Nat.lt_irrefl i), Nat.sub_self, show 128 - i = (128 - (i + 1)) + 1 by omega, List.replicate_succ, List.set_cons_zero, List.replicate_succ', List.append_assoc]
      rfl
    unfold fi_step
    simp only [decide_eq_true (show (i : Int) < 128 by omega), decide_eq_true (show (0 : Int) ≤ (i : Int) by omega), Int.toNat_natCast, Nat.zero_add, hg i (by omega), hn, hs, decide_eq_true hi, Nat.beq_refl, wrap_succ (show i < 2 ^ 62 by omega), Bool.not_true, Bool.false_or, Bool.true_and, T.run_br, T.run_chk, T.run_leaf, cond_false]
    rfl
  · unfold fi_step
    simp only [decide_eq_false (show ¬ ((128 : Nat) : Int) < 128 by omega), Nat.sub_self, List.replicate_zero, List.append_nil]
    rfl
def L_fi : Frame' → Store → T (Exit × Frame' × Store) := fun fr σ => match fr.getD 0 .undef, fr.getD 3 .undef, fr.getD 4 .undef, σ with
  | AV.dat (D.int IntKind.u8 c), AV.sref Sh.one 0 128 [] 0 128, AV.dat (D.int IntKind.i64 0), [{ sh := Sh.arr Sh.one 0, dyn := true, frz := false, v := AV.dat (D.arr Sh.one b) }] => .chk (Nat.beq fr.length 17 && (D.eqbL b (List.replicate 128 (.int .u8 0)))) (T.bind (.leaf (some 0, mkF 17 [(3, .sref .one 0 128 [] 0 128)], [⟨.arr .one 0, true, false, .dat (.arr .one (fillL c))⟩])) fun o => .leaf (outEx o.1, o.2.1, o.2.2))
  | _, _, _, _ => .fail
theorem fi_sem (lp : Loops) : ∀ fr σ p, (L_fi fr σ).run = some p → ∀ (K : Kt) r, K p.1 p.2.1 p.2.2 = some r → ∃ n, loopRun (envOf tab [] [] lp []) Try.f24 0 σ.length n (cleanF (liveAt Try.f24 0) 0 fr) σ K = some r := by
  intro fr σ p h K r hK
  unfold L_fi at h
  split at h
  · rename_i c b g0 g3 g4
    obtain ⟨hc, h'⟩ := T.chk_some h
    rw [Bool.and_eq_true] at hc
    obtain ⟨hl, hc⟩ := hc
    obtain ⟨o, ho, h'⟩ := T.bind_some h'
    have hp := T.leaf_some h'
    subst hp
    obtain ⟨nF, hn⟩ : ∃ nF, (iterT (fi_step c) nF ((0, b))).run = T.run (.leaf (some 0, mkF 17 [(3, .sref .one 0 128 [] 0 128)], [⟨.arr .one 0, true, false, .dat (.arr .one (fillL c))⟩])) := fi_closed c b hc
    rw [ho] at hn
    refine ⟨nF, ?_⟩
    have he : cleanF (liveAt Try.f24 0) 0 fr = fi_fr c ((0, b)) := fi_enter c _ _ fr hl g0 g3 g4
    refine (iter_ok (base := 1) (fi_hr lp c) K nF ((0, b)) _ _ (by rw [clean_clean]; exact he) (by kernel_rfl)).trans ?_
    rw [T.k_run hn]
    exact hK
  · simp [T.run_fail] at h
theorem fi_loopOk {k : Nat} (lp : Loops) (hk : Loops.get lp 3 = some L_fi) : LoopOkN Try.prog k (envOf tab [] [] lp []) (loopAt Try.f24 0).1 (loopAt Try.f24 0).2 := loop_okN (L := L_fi) (by kernel_rfl) hk (fi_sem lp)
def C_fill : FunT := fun args σ => match args, σ with
  | [AV.dat (D.int IntKind.u8 c)], [] => .leaf ([AV.dat (D.slc Sh.one [D.int IntKind.u8 c, D.int IntKind.u8 c, D.int IntKind.u8 c, D.int IntKind.u8 c, D.int IntKind.u8 c, D.int IntKind.u8 c, D.int IntKind.u8 c, D.int IntKind.u8 c, D.int IntKind.u8 c, D.int IntKind.u8 c, D.int IntKind.u8 c, D.int IntKind.u8 c, D.int IntKind.u8 c, D.int IntKind.u8 c, D.int IntKind.u8 c, D.int IntKind.u8 c, D.int IntKind.u8 c, D.int IntKind.u8 c, D.int IntKind.u8 c, D.int IntKind.u8 c, D.int IntKind.u8 c, D.int IntKind.u8 c, D.int IntKind.u8 c, D.int IntKind.u8 c, D.int IntKind.u8 c, D.int IntKind.u8 c, D.int IntKind.u8 c, D.int IntKind.u8 c, D.int IntKind.u8 c, D.int IntKind.u8 c, D.int IntKind.u8 c, D.int IntKind.u8 c, D.int IntKind.u8 c, D.int IntKind.u8 c, D.int IntKind.u8 c, D.int IntKind.u8 c, D.int IntKind.u8 c, D.int IntKind.u8 c, D.int IntKind.u8 c, D.int IntKind.u8 c, D.int IntKind.u8 c, D.int IntKind.u8 c, D.int IntKind.u8 c, D.int IntKind.u8 c, D.int IntKind.u8 c, D.int IntKind.u8 c, D.int IntKind.u8 c, D.int IntKind.u8 c, D.int IntKind.u8 c, D.int IntKind.u8 c, D.int IntKind.u8 c, D.int IntKind.u8 c, D.int IntKind.u8 c, D.int IntKind.u8 c, D.int IntKind.u8 c, D.int IntKind.u8 c, D.int IntKind.u8 c, D.int IntKind.u8 c, D.int IntKind.u8 c, D.int IntKind.u8 c, D.int IntKind.u8 c, D.int IntKind.u8 c, D.int IntKind.u8 c, D.int IntKind.u8 c, D.int IntKind.u8 c, D.int IntKind.u8 c, D.int IntKind.u8 c, D.int IntKind.u8 c, D.int IntKind.u8 c, D.int IntKind.u8 c, D.int IntKind.u8 c, D.int IntKind.u8 c, D.int IntKind.u8 c, D.int IntKind.u8 c, D.int IntKind.u8 c, D.int IntKind.u8 c, D.int IntKind.u8 c, D.int IntKind.u8 c, D.int IntKind.u8 c, D.int IntKind.u8 c, D.int IntKind.u8 c, D.int IntKind.u8 c, D.int IntKind.u8 c, D.int IntKind.u8 c, D.int IntKind.u8 c, D.int IntKind.u8 c, D.int IntKind.u8 c, D.int IntKind.u8 c, D.int IntKind.u8 c, D.int IntKind.u8 c, D.int IntKind.u8 c, D.int IntKind.u8 c, D.int IntKind.u8 c, D.int IntKind.u8 c, D.int IntKind.u8 c, D.int IntKind.u8 c, D.int IntKind.u8 c, D.int IntKind.u8 c, D.int IntKind.u8 c, D.int IntKind.u8 c, D.int IntKind.u8 c, D.int IntKind.u8 c, D.int IntKind.u8 c, D.int IntKind.u8 c, D.int IntKind.u8 c, D.int IntKind.u8 c, D.int IntKind.u8 c, D.int IntKind.u8 c, D.int IntKind.u8 c, D.int IntKind.u8 c, D.int IntKind.u8 c, D.int IntKind.u8 c, D.int IntKind.u8 c, D.int IntKind.u8 c, D.int IntKind.u8 c, D.int IntKind.u8 c, D.int IntKind.u8 c, D.int IntKind.u8 c, D.int IntKind.u8 c, D.int IntKind.u8 c, D.int IntKind.u8 c, D.int IntKind.u8 c, D.int IntKind.u8 c, D.int IntKind.u8 c, D.int IntKind.u8 c, D.int IntKind.u8 c, D.int IntKind.u8 c, D.int IntKind.u8 c])], [])
  | _, _ => .fail
theorem fill_raw0 (c : Int) : runF (envOf tab [] [] [(3, L_fi)] []) true Try.f24 [.dat (.int .u8 c)] [] =some ([.dat (.slc Sh.one [D.int IntKind.u8 c, D.int IntKind.u8 c, D.int IntKind.u8 c, D.int IntKind.u8 c, D.int IntKind.u8 c, D.int IntKind.u8 c, D.int IntKind.u8 c, D.int IntKind.u8 c, D.int IntKind.u8 c, D.int IntKind.u8 c, D.int IntKind.u8 c, D.int IntKind.u8 c, D.int IntKind.u8 c, D.int IntKind.u8 c, D.int IntKind.u8 c, D.int IntKind.u8 c, D.int IntKind.u8 c, D.int IntKind.u8 c, D.int IntKind.u8 c, D.int IntKind.u8 c, D.int IntKind.u8 c, D.int IntKind.u8 c, D.int IntKind.u8 c, D.int IntKind.u8 c, D.int IntKind.u8 c, D.int IntKind.u8 c, D.int IntKind.u8 c, D.int IntKind.u8 c, D.int IntKind.u8 c, D.int IntKind.u8 c, D.int IntKind.u8 c, D.int IntKind.u8 c, D.int IntKind.u8 c, D.int IntKind.u8 c, D.int IntKind.u8 c, D.int IntKind.u8 c, D.int IntKind.u8 c, D.int IntKind.u8 c, D.int IntKind.u8 c, D.int IntKind.u8 c, D.int IntKind.u8 c, D.int IntKind.u8 c, D.int IntKind.u8 c, D.int IntKind.u8 c, D.int IntKind.u8 c, D.int IntKind.u8 c, D.int IntKind.u8 c, D.int IntKind.u8 c, D.int IntKind.u8 c, D.int IntKind.u8 c, D.int IntKind.u8 c, D.int IntKind.u8 c, D.int IntKind.u8 c, D.int IntKind.u8 c, D.int IntKind.u8 c, D.int IntKind.u8 c, D.int IntKind.u8 c, D.int IntKind.u8 c, D.int IntKind.u8 c, D.int IntKind.u8 c, D.int IntKind.u8 c, D.int IntKind.u8 c, D.int IntKind.u8 c, D.int IntKind.u8 c, D.int IntKind.u8 c, D.int IntKind.u8 c, D.int IntKind.u8 c, D.int IntKind.u8 c, D.int IntKind.u8 c, D.int IntKind.u8 c, D.int IntKind.u8 c, D.int IntKind.u8 c, D.int IntKind.u8 c, D.int IntKind.u8 c, D.int IntKind.u8 c, D.int IntKind.u8 c, D.int IntKind.u8 c, D.int IntKind.u8 c, D.int IntKind.u8 c, D.int IntKind.u8 c, D.int IntKind.u8 c, D.int IntKind.u8 c, D.int IntKind.u8 c, D.int IntKind.u8 c, D.int IntKind.u8 c, D.int IntKind.u8 c, D.int IntKind.u8 c, D.int IntKind.u8 c, D.int IntKind.u8 c, D.int IntKind.u8 c, D.int IntKind.u8 c, D.int IntKind.u8 c, D.int IntKind.u8 c, D.int IntKind.u8 c, D.int IntKind.u8 c, D.int IntKind.u8 c, D.int IntKind.u8 c, D.int IntKind.u8 c, D.int IntKind.u8 c, D.int IntKind.u8 c, D.int IntKind.u8 c, D.int IntKind.u8 c, D.int IntKind.u8 c, D.int IntKind.u8 c, D.int IntKind.u8 c, D.int IntKind.u8 c, D.int IntKind.u8 c, D.int IntKind.u8 c, D.int IntKind.u8 c, D.int IntKind.u8 c, D.int IntKind.u8 c, D.int IntKind.u8 c, D.int IntKind.u8 c, D.int IntKind.u8 c, D.int IntKind.u8 c, D.int IntKind.u8 c, D.int IntKind.u8 c, D.int IntKind.u8 c, D.int IntKind.u8 c, D.int IntKind.u8 c, D.int IntKind.u8 c, D.int IntKind.u8 c, D.int IntKind.u8 c, D.int IntKind.u8 c, D.int IntKind.u8 c, D.int IntKind.u8 c, D.int IntKind.u8 c, D.int IntKind.u8 c])], []) := by kernel_rfl
theorem fill_case0 (c : Int) : runF (envOf tab [] [] [(3, L_fi)] []) true Try.f24 [.dat (.int .u8 c)] [] = FunT.run C_fill [.dat (.int .u8 c)] [] := (fill_raw0 c).trans (by
  show _ = (some (([.dat (.slc Sh.one [D.int IntKind.u8 c, D.int IntKind.u8 c, D.int IntKind.u8 c, D.int IntKind.u8 c, D.int IntKind.u8 c, D.int IntKind.u8 c, D.int IntKind.u8 c, D.int IntKind.u8 c, D.int IntKind.u8 c, D.int IntKind.u8 c, D.int IntKind.u8 c, D.int IntKind.u8 c, D.int IntKind.u8 c, D.int IntKind.u8 c, D.int IntKind.u8 c, D.int IntKind.u8 c, D.int IntKind.u8 c, D.int IntKind.u8 c, D.int IntKind.u8 c, D.int IntKind.u8 c, D.int IntKind.u8 c, D.int IntKind.u8 c, D.int IntKind.u8 c, D.int IntKind.u8 c, D.int IntKind.u8 c, D.int IntKind.u8 c, D.int IntKind.u8 c, D.int IntKind.u8 c, D.int IntKind.u8 c, D.int IntKind.u8 c, D.int IntKind.u8 c, D.int IntKind.u8 c, D.int IntKind.u8 c, D.int IntKind.u8 c, D.int IntKind.u8 c, D.int IntKind.u8 c, D.int IntKind.u8 c, D.int IntKind.u8 c, D.int IntKind.u8 c, D.int IntKind.u8 c, D.int IntKind.u8 c, D.int IntKind.u8 c, D.int IntKind.u8 c, D.int IntKind.u8 c, D.int IntKind.u8 c, D.int IntKind.u8 c, D.int IntKind.u8 c, D.int IntKind.u8 c, D.int IntKind.u8 c, D.int IntKind.u8 c, D.int IntKind.u8 c, D.int IntKind.u8 c, D.int IntKind.u8 c, D.int IntKind.u8 c, D.int IntKind.u8 c, D.int IntKind.u8 c, D.int IntKind.u8 c, D.int IntKind.u8 c, D.int IntKind.u8 c, D.int IntKind.u8 c, D.int IntKind.u8 c, D.int IntKind.u8 c, D.int IntKind.u8 c, D.int IntKind.u8 c, D.int IntKind.u8 c, D.int IntKind.u8 c, D.int IntKind.u8 c, D.int IntKind.u8 c, D.int IntKind.u8 c, D.int IntKind.u8 c, D.int IntKind.u8 c, D.int IntKind.u8 c, D.int IntKind.u8 c, D.int IntKind.u8 c, D.int IntKind.u8 c, D.int IntKind.u8 c, D.int IntKind.u8 c, D.int IntKind.u8 c, D.int IntKind.u8 c, D.int IntKind.u8 c, D.int IntKind.u8 c, D.int IntKind.u8 c, D.int IntKind.u8 c, D.int IntKind.u8 c, D.int IntKind.u8 c, D.int IntKind.u8 c, D.int IntKind.u8 c, D.int IntKind.u8 c, D.int IntKind.u8 c, D.int IntKind.u8 c, D.int IntKind.u8 c, D.int IntKind.u8 c, D.int IntKind.u8 c, D.int IntKind.u8 c, D.int IntKind.u8 c, D.int IntKind.u8 c, D.int IntKind.u8 c, D.int IntKind.u8 c, D.int IntKind.u8 c, D.int IntKind.u8 c, D.int IntKind.u8 c, D.int IntKind.u8 c, D.int IntKind.u8 c, D.int IntKind.u8 c, D.int IntKind.u8 c, D.int IntKind.u8 c, D.int IntKind.u8 c, D.int IntKind.u8 c, D.int IntKind.u8 c, D.int IntKind.u8 c, D.int IntKind.u8 c, D.int IntKind.u8 c, D.int IntKind.u8 c, D.int IntKind.u8 c, D.int IntKind.u8 c, D.int IntKind.u8 c, D.int IntKind.u8 c, D.int IntKind.u8 c, D.int IntKind.u8 c, D.int IntKind.u8 c, D.int IntKind.u8 c, D.int IntKind.u8 c, D.int IntKind.u8 c, D.int IntKind.u8 c, D.int IntKind.u8 c, D.int IntKind.u8 c, D.int IntKind.u8 c, D.int IntKind.u8 c])], []) : Res))
  rfl
  )
theorem cfill_ok : FunOk Try.prog 24 (FunT.run C_fill) := by
  refine fun_ok (E := envOf tab [] [] [(3, L_fi)] []) (fz := true) (fn := Try.f24) (envOf_ok progOk (.nil _)) (by kernel_rfl) (by kernel_rfl) (loops_one (by kernel_rfl) (fi_loopOk _ rfl)) ?_
  intro args σ r h
  unfold C_fill at h
  split at h
  · exact (fill_case0 _).trans h
  · simp [T.run_fail] at h
end Go.Proofs.Ythhipekbkodjoaa
