/- Seat 20: small functions. -/
import Derived.Test.YtdmmobjegfhneaaTab
import Derived.Test.YtdmmobjegfhneaaAx22
namespace Go.Proofs.Ytdmmobjegfhneaa
open Go.AX
set_option maxRecDepth 100000
abbrev entD (r li la wh si ba qu qt pr sl : Int) : D := .agg [.int .u64 r, .int .i64 li, .int .i64 la, .int .i64 wh, .int .i64 si, .int .i64 ba, .int .i64 qu, .int .u64 qt, .int .u64 pr, .int .i64 sl]
def is_v0 (n : Int) : Bool := decide (0 ≤ n) && decide (n ≤ 127)
def C_is : FunT := fun args σ => match args, σ with
  | [AV.dat (D.int IntKind.i64 n)], [] => .leaf ([AV.dat (D.bool (is_v0 n))], [])
  | _, _ => .fail
theorem is_raw0 (n : Int) : runF (envOf tab [] [] [] []) true Try.f21 [.dat (.int .i64 n)] [] =
  (bif decide (n ≥ 0) then some ([.dat (.bool (decide (n ≤ 127)))], []) else some ([.dat (.bool false)], [])) := by kernel_rfl
theorem is_case0 (n : Int) : runF (envOf tab [] [] [] []) true Try.f21 [.dat (.int .i64 n)] [] = FunT.run C_is [.dat (.int .i64 n)] [] := (is_raw0 n).trans (by
  show _ = (some (([.dat (.bool (decide (0 ≤ n) && decide (n ≤ 127)))], []) : Res))
  generalize (decide (0 ≤ n)) = z0
  cases z0 with
  | true =>
   rfl
  | false =>
   rfl
  )
theorem cis_ok : FunOk Try.prog 21 (FunT.run C_is) := by
  refine fun_ok (E := envOf tab [] [] [] []) (fz := true) (fn := Try.f21) (envOf_ok progOk (.nil _)) (by kernel_rfl) (by kernel_rfl) (loops_none (by kernel_rfl)) ?_
  intro args σ r h
  unfold C_is at h
  split at h
  · exact (is_case0 _).trans h
  · simp [T.run_fail] at h
def cr_v0 (n : Int) : Bool := decide (0 ≤ n) && decide (n < 4)
def C_cr : FunT := fun args σ => match args, σ with
  | [AV.dat (D.int IntKind.i64 n)], [] => .leaf ([AV.dat (D.bool (cr_v0 n))], [])
  | _, _ => .fail
theorem cr_raw0 (n : Int) : runF (envOf tab [] [] [] []) true Try.f23 [.dat (.int .i64 n)] [] =
  (bif decide (n ≥ 0) then some ([.dat (.bool (decide (n < 4)))], []) else some ([.dat (.bool false)], [])) := by kernel_rfl
theorem cr_case0 (n : Int) : runF (envOf tab [] [] [] []) true Try.f23 [.dat (.int .i64 n)] [] = FunT.run C_cr [.dat (.int .i64 n)] [] := (cr_raw0 n).trans (by
  show _ = (some (([.dat (.bool (decide (0 ≤ n) && decide (n < 4)))], []) : Res))
  generalize (decide (0 ≤ n)) = z0
  cases z0 with
  | true =>
   rfl
  | false =>
   rfl
  )
theorem ccr_ok : FunOk Try.prog 23 (FunT.run C_cr) := by
  refine fun_ok (E := envOf tab [] [] [] []) (fz := true) (fn := Try.f23) (envOf_ok progOk (.nil _)) (by kernel_rfl) (by kernel_rfl) (loops_none (by kernel_rfl)) ?_
  intro args σ r h
  unfold C_cr at h
  split at h
  · exact (cr_case0 _).trans h
  · simp [T.run_fail] at h
def num_v0 (n : Int) : Bool := decide (0 ≤ n) && decide (n < 128)
def C_num : FunT := fun args σ => match args, σ with
  | [AV.dat (D.int IntKind.i64 n)], [] => .leaf ([AV.dat (D.bool (num_v0 n))], [])
  | _, _ => .fail
theorem num_raw0 (n : Int) : runF (envOf tab [] [] [] []) true Try.f24 [.dat (.int .i64 n)] [] =
  (bif decide (n ≥ 0) then some ([.dat (.bool (decide (n < 128)))], []) else some ([.dat (.bool false)], [])) := by kernel_rfl
theorem num_case0 (n : Int) : runF (envOf tab [] [] [] []) true Try.f24 [.dat (.int .i64 n)] [] = FunT.run C_num [.dat (.int .i64 n)] [] := (num_raw0 n).trans (by
  show _ = (some (([.dat (.bool (decide (0 ≤ n) && decide (n < 128)))], []) : Res))
  generalize (decide (0 ≤ n)) = z0
  cases z0 with
  | true =>
   rfl
  | false =>
   rfl
  )
theorem cnum_ok : FunOk Try.prog 24 (FunT.run C_num) := by
  refine fun_ok (E := envOf tab [] [] [] []) (fz := true) (fn := Try.f24) (envOf_ok progOk (.nil _)) (by kernel_rfl) (by kernel_rfl) (loops_none (by kernel_rfl)) ?_
  intro args σ r h
  unfold C_num at h
  split at h
  · exact (num_case0 _).trans h
  · simp [T.run_fail] at h
def m64_v0 (a : Int) (b : Int) : Int := IntKind.wrap IntKind.u64 (IntKind.wrap IntKind.u64 (IntKind.wrap IntKind.u64 (Int.fdiv a 4294967296 * Int.fdiv b 4294967296) + Int.fdiv (IntKind.wrap IntKind.u64 (IntKind.wrap IntKind.u64 (Int.fdiv a 4294967296 * IntKind.wrap IntKind.u64 (↑(BitVec.toNat (BitVec.ofInt 64 b &&& BitVec.ofInt 64 4294967295)) : Int)) + Int.fdiv (IntKind.wrap IntKind.u64 (IntKind.wrap IntKind.u64 (↑(BitVec.toNat (BitVec.ofInt 64 a &&& BitVec.ofInt 64 4294967295)) : Int) * IntKind.wrap IntKind.u64 (↑(BitVec.toNat (BitVec.ofInt 64 b &&& BitVec.ofInt 64 4294967295)) : Int))) 4294967296)) 4294967296) + Int.fdiv (IntKind.wrap IntKind.u64 (IntKind.wrap IntKind.u64 (↑(BitVec.toNat (BitVec.ofInt 64 (IntKind.wrap IntKind.u64 (IntKind.wrap IntKind.u64 (Int.fdiv a 4294967296 * IntKind.wrap IntKind.u64 (↑(BitVec.toNat (BitVec.ofInt 64 b &&& BitVec.ofInt 64 4294967295)) : Int)) + Int.fdiv (IntKind.wrap IntKind.u64 (IntKind.wrap IntKind.u64 (↑(BitVec.toNat (BitVec.ofInt 64 a &&& BitVec.ofInt 64 4294967295)) : Int) * IntKind.wrap IntKind.u64 (↑(BitVec.toNat (BitVec.ofInt 64 b &&& BitVec.ofInt 64 4294967295)) : Int))) 4294967296)) &&& BitVec.ofInt 64 4294967295)) : Int) + IntKind.wrap IntKind.u64 (IntKind.wrap IntKind.u64 (↑(BitVec.toNat (BitVec.ofInt 64 a &&& BitVec.ofInt 64 4294967295)) : Int) * Int.fdiv b 4294967296))) 4294967296)
def C_m64 : FunT := fun args σ => match args, σ with
  | [AV.dat (D.int IntKind.u64 a), AV.dat (D.int IntKind.u64 b)], [] => .leaf ([AV.dat (D.int IntKind.u64 (m64_v0 a b)), AV.dat (D.int IntKind.u64 (IntKind.wrap IntKind.u64 (a * b)))], [])
  | _, _ => .fail
theorem m64_raw0 (a b : Int) : runF (envOf tab [] [] [] []) true Try.f59 [.dat (.int .u64 a), .dat (.int .u64 b)] [] =some ([.dat (.int IntKind.u64 (IntKind.wrap IntKind.u64 (IntKind.wrap IntKind.u64 (IntKind.wrap IntKind.u64 (Int.fdiv a 4294967296 * Int.fdiv b 4294967296) + Int.fdiv (IntKind.wrap IntKind.u64 (IntKind.wrap IntKind.u64 (Int.fdiv a 4294967296 * IntKind.wrap IntKind.u64 (↑(BitVec.toNat (BitVec.ofInt 64 b &&& BitVec.ofInt 64 4294967295)) : Int)) + Int.fdiv (IntKind.wrap IntKind.u64 (IntKind.wrap IntKind.u64 (↑(BitVec.toNat (BitVec.ofInt 64 a &&& BitVec.ofInt 64 4294967295)) : Int) * IntKind.wrap IntKind.u64 (↑(BitVec.toNat (BitVec.ofInt 64 b &&& BitVec.ofInt 64 4294967295)) : Int))) 4294967296)) 4294967296) + Int.fdiv (IntKind.wrap IntKind.u64 (IntKind.wrap IntKind.u64 (↑(BitVec.toNat (BitVec.ofInt 64 (IntKind.wrap IntKind.u64 (IntKind.wrap IntKind.u64 (Int.fdiv a 4294967296 * IntKind.wrap IntKind.u64 (↑(BitVec.toNat (BitVec.ofInt 64 b &&& BitVec.ofInt 64 4294967295)) : Int)) + Int.fdiv (IntKind.wrap IntKind.u64 (IntKind.wrap IntKind.u64 (↑(BitVec.toNat (BitVec.ofInt 64 a &&& BitVec.ofInt 64 4294967295)) : Int) * IntKind.wrap IntKind.u64 (↑(BitVec.toNat (BitVec.ofInt 64 b &&& BitVec.ofInt 64 4294967295)) : Int))) 4294967296)) &&& BitVec.ofInt 64 4294967295)) : Int) + IntKind.wrap IntKind.u64 (IntKind.wrap IntKind.u64 (↑(BitVec.toNat (BitVec.ofInt 64 a &&& BitVec.ofInt 64 4294967295)) : Int) * Int.fdiv b 4294967296))) 4294967296))), .dat (.int IntKind.u64 (IntKind.wrap IntKind.u64 (a * b)))], []) := by kernel_rfl
theorem m64_case0 (a b : Int) : runF (envOf tab [] [] [] []) true Try.f59 [.dat (.int .u64 a), .dat (.int .u64 b)] [] = FunT.run C_m64 [.dat (.int .u64 a), .dat (.int .u64 b)] [] := (m64_raw0 a b).trans (by
  show _ = (some (([.dat (.int IntKind.u64 (IntKind.wrap IntKind.u64 (IntKind.wrap IntKind.u64 (IntKind.wrap IntKind.u64 (Int.fdiv a 4294967296 * Int.fdiv b 4294967296) + Int.fdiv (IntKind.wrap IntKind.u64 (IntKind.wrap IntKind.u64 (Int.fdiv a 4294967296 * IntKind.wrap IntKind.u64 (↑(BitVec.toNat (BitVec.ofInt 64 b &&& BitVec.ofInt 64 4294967295)) : Int)) + Int.fdiv (IntKind.wrap IntKind.u64 (IntKind.wrap IntKind.u64 (↑(BitVec.toNat (BitVec.ofInt 64 a &&& BitVec.ofInt 64 4294967295)) : Int) * IntKind.wrap IntKind.u64 (↑(BitVec.toNat (BitVec.ofInt 64 b &&& BitVec.ofInt 64 4294967295)) : Int))) 4294967296)) 4294967296) + Int.fdiv (IntKind.wrap IntKind.u64 (IntKind.wrap IntKind.u64 (↑(BitVec.toNat (BitVec.ofInt 64 (IntKind.wrap IntKind.u64 (IntKind.wrap IntKind.u64 (Int.fdiv a 4294967296 * IntKind.wrap IntKind.u64 (↑(BitVec.toNat (BitVec.ofInt 64 b &&& BitVec.ofInt 64 4294967295)) : Int)) + Int.fdiv (IntKind.wrap IntKind.u64 (IntKind.wrap IntKind.u64 (↑(BitVec.toNat (BitVec.ofInt 64 a &&& BitVec.ofInt 64 4294967295)) : Int) * IntKind.wrap IntKind.u64 (↑(BitVec.toNat (BitVec.ofInt 64 b &&& BitVec.ofInt 64 4294967295)) : Int))) 4294967296)) &&& BitVec.ofInt 64 4294967295)) : Int) + IntKind.wrap IntKind.u64 (IntKind.wrap IntKind.u64 (↑(BitVec.toNat (BitVec.ofInt 64 a &&& BitVec.ofInt 64 4294967295)) : Int) * Int.fdiv b 4294967296))) 4294967296))), .dat (.int IntKind.u64 (IntKind.wrap IntKind.u64 (a * b)))], []) : Res))
  rfl
  )
theorem cm64_ok : FunOk Try.prog 59 (FunT.run C_m64) := by
  refine fun_ok (E := envOf tab [] [] [] []) (fz := true) (fn := Try.f59) (envOf_ok progOk (.nil _)) (by kernel_rfl) (by kernel_rfl) (loops_none (by kernel_rfl)) ?_
  intro args σ r h
  unfold C_m64 at h
  split at h
  · exact (m64_case0 _ _).trans h
  · simp [T.run_fail] at h
abbrev SpA0 : Specs := [(59, C_m64)]
theorem SpA0_ok : SpecsOk Try.prog SpA0 := .cons cm64_ok (.nil _)
def ti_v0 (a : Int) (b : Int) : Int := bif m64_v0 a b != 0 then 0 else bif decide (4611686018427387904 < IntKind.wrap IntKind.u64 (a * b)) then 0 else IntKind.wrap IntKind.u64 (a * b)
def ti_v1 (a : Int) (b : Int) : Int := bif m64_v0 a b != 0 then 7 else bif decide (4611686018427387904 < IntKind.wrap IntKind.u64 (a * b)) then 7 else 0
def C_ti : FunT := fun args σ => match args, σ with
  | [AV.dat (D.int IntKind.u64 a), AV.dat (D.int IntKind.u64 b)], [] => .leaf ([AV.dat (D.int IntKind.u64 (ti_v0 a b)), AV.dat (D.int IntKind.i64 (ti_v1 a b))], [])
  | _, _ => .fail
theorem ti_raw0 (a b : Int) : runF (envOf tab SpA0 [] [] []) true Try.f35 [.dat (.int .u64 a), .dat (.int .u64 b)] [] =
  (bif m64_v0 a b != 0 then some ([.dat (.int IntKind.u64 0), .dat (.int .i64 7)], []) else
   (bif decide (IntKind.wrap IntKind.u64 (a * b) > 4611686018427387904) then some ([.dat (.int IntKind.u64 0), .dat (.int .i64 7)], []) else some ([.dat (.int IntKind.u64 (IntKind.wrap IntKind.u64 (a * b))), .dat (.int .i64 0)], []))) := by kernel_rfl
theorem ti_case0 (a b : Int) : runF (envOf tab SpA0 [] [] []) true Try.f35 [.dat (.int .u64 a), .dat (.int .u64 b)] [] = FunT.run C_ti [.dat (.int .u64 a), .dat (.int .u64 b)] [] := (ti_raw0 a b).trans (by
  show _ = (some (([.dat (.int IntKind.u64 (bif m64_v0 a b != 0 then 0 else bif decide (4611686018427387904 < IntKind.wrap IntKind.u64 (a * b)) then 0 else IntKind.wrap IntKind.u64 (a * b))), .dat (.int .i64 (bif m64_v0 a b != 0 then 7 else bif decide (4611686018427387904 < IntKind.wrap IntKind.u64 (a * b)) then 7 else 0))], []) : Res))
  generalize (decide (4611686018427387904 < IntKind.wrap IntKind.u64 (a * b))) = z0
  generalize (m64_v0 a b != 0) = z1
  cases z1 with
  | true =>
   rfl
  | false =>
   cases z0 with
   | true =>
    rfl
   | false =>
    rfl
  )
theorem cti_ok : FunOk Try.prog 35 (FunT.run C_ti) := by
  refine fun_ok (E := envOf tab SpA0 [] [] []) (fz := true) (fn := Try.f35) (envOf_ok progOk SpA0_ok) (by kernel_rfl) (by kernel_rfl) (loops_none (by kernel_rfl)) ?_
  intro args σ r h
  unfold C_ti at h
  split at h
  · exact (ti_case0 _ _).trans h
  · simp [T.run_fail] at h
def rti_v0 (a : Int) (b : Int) : Int := bif a != 0 then bif decide (IntKind.wrap IntKind.u64 (Int.tdiv 4611686018427387904 a) < b) then 0 else IntKind.wrap IntKind.u64 (a * b) else IntKind.wrap IntKind.u64 (a * b)
def rti_v1 (a : Int) (b : Int) : Int := bif a != 0 then bif decide (IntKind.wrap IntKind.u64 (Int.tdiv 4611686018427387904 a) < b) then 7 else 0 else 0
def rti_pre (a : Int) : Bool := !a != 0 || !decide (a = 0)
def C_rti : FunT := fun args σ => match args, σ with
  | [AV.dat (D.int IntKind.u64 a), AV.dat (D.int IntKind.u64 b)], [] => .chk ((rti_pre a)) (.leaf ([AV.dat (D.int IntKind.u64 (rti_v0 a b)), AV.dat (D.int IntKind.i64 (rti_v1 a b))], []))
  | _, _ => .fail
theorem rti_raw0 (a b : Int) : runF (envOf tab [] [] [] []) true Try.f36 [.dat (.int .u64 a), .dat (.int .u64 b)] [] =
  (bif a != 0 then
   (bif !decide (a = 0) then
    (bif decide (b > IntKind.wrap IntKind.u64 (Int.tdiv 4611686018427387904 a)) then some ([.dat (.int IntKind.u64 0), .dat (.int .i64 7)], []) else some ([.dat (.int IntKind.u64 (IntKind.wrap IntKind.u64 (a * b))), .dat (.int .i64 0)], [])) else none) else some ([.dat (.int IntKind.u64 (IntKind.wrap IntKind.u64 (a * b))), .dat (.int .i64 0)], [])) := by kernel_rfl
theorem rti_case0 (a b : Int) : runF (envOf tab [] [] [] []) true Try.f36 [.dat (.int .u64 a), .dat (.int .u64 b)] [] = FunT.run C_rti [.dat (.int .u64 a), .dat (.int .u64 b)] [] := (rti_raw0 a b).trans (by
  show _ = (cond (!a != 0 || !decide (a = 0)) (some (([.dat (.int IntKind.u64 (bif a != 0 then bif decide (IntKind.wrap IntKind.u64 (Int.tdiv 4611686018427387904 a) < b) then 0 else IntKind.wrap IntKind.u64 (a * b) else IntKind.wrap IntKind.u64 (a * b))), .dat (.int .i64 (bif a != 0 then bif decide (IntKind.wrap IntKind.u64 (Int.tdiv 4611686018427387904 a) < b) then 7 else 0 else 0))], []) : Res)) none)
  generalize (decide (IntKind.wrap IntKind.u64 (Int.tdiv 4611686018427387904 a) < b)) = z0
  generalize (decide (a = 0)) = z1
  generalize (a != 0) = z2
  cases z2 with
  | true =>
   cases z1 with
   | true =>
    rfl
   | false =>
    cases z0 with
    | true =>
     rfl
    | false =>
     rfl
  | false =>
   rfl
  )
theorem crti_ok : FunOk Try.prog 36 (FunT.run C_rti) := by
  refine fun_ok (E := envOf tab [] [] [] []) (fz := true) (fn := Try.f36) (envOf_ok progOk (.nil _)) (by kernel_rfl) (by kernel_rfl) (loops_none (by kernel_rfl)) ?_
  intro args σ r h
  unfold C_rti at h
  split at h
  · exact (rti_case0 _ _).trans h
  · simp [T.run_fail] at h
abbrev SpA1 : Specs := [(35, C_ti), (36, C_rti), (21, C_is), (23, C_cr), (24, C_num)]
theorem SpA1_ok : SpecsOk Try.prog SpA1 := .cons cti_ok (.cons crti_ok (.cons cis_ok (.cons ccr_ok (.cons cnum_ok (.nil _)))))
def need_v0 (s : Int) (q : Int) (p : Int) : Int := bif s != 1 then bif s != 2 then 0 else bif q == 0 then 0 else bif p == 0 then 0 else bif ti_v1 q p != 0 then 0 else bif s == 2 then q else ti_v0 q p else bif q == 0 then 0 else bif p == 0 then 0 else bif ti_v1 q p != 0 then 0 else bif s == 2 then q else ti_v0 q p
def need_v1 (s : Int) (q : Int) (p : Int) : Int := bif s != 1 then bif s != 2 then 1 else bif q == 0 then 1 else bif p == 0 then 1 else bif ti_v1 q p != 0 then ti_v1 q p else 0 else bif q == 0 then 1 else bif p == 0 then 1 else bif ti_v1 q p != 0 then ti_v1 q p else 0
def C_need : FunT := fun args σ => match args, σ with
  | [AV.dat (D.int IntKind.i64 s), AV.dat (D.int IntKind.u64 q), AV.dat (D.int IntKind.u64 p)], [] => .leaf ([AV.dat (D.int IntKind.u64 (need_v0 s q p)), AV.dat (D.int IntKind.i64 (need_v1 s q p))], [])
  | _, _ => .fail
theorem need_raw0 (s q p : Int) : runF (envOf tab SpA1 [] [] []) true Try.f22 [.dat (.int .i64 s), .dat (.int .u64 q), .dat (.int .u64 p)] [] =
  (bif s != 1 then
   (bif s != 2 then some ([.dat (.int IntKind.u64 0), .dat (.int .i64 1)], []) else
    (bif q == 0 then some ([.dat (.int IntKind.u64 0), .dat (.int .i64 1)], []) else
     (bif p == 0 then some ([.dat (.int IntKind.u64 0), .dat (.int .i64 1)], []) else
      (bif ti_v1 q p != 0 then some ([.dat (.int IntKind.u64 0), .dat (.int .i64 (ti_v1 q p))], []) else
       (bif s == 2 then some ([.dat (.int IntKind.u64 q), .dat (.int .i64 0)], []) else some ([.dat (.int IntKind.u64 (ti_v0 q p)), .dat (.int .i64 0)], [])))))) else
   (bif q == 0 then some ([.dat (.int IntKind.u64 0), .dat (.int .i64 1)], []) else
    (bif p == 0 then some ([.dat (.int IntKind.u64 0), .dat (.int .i64 1)], []) else
     (bif ti_v1 q p != 0 then some ([.dat (.int IntKind.u64 0), .dat (.int .i64 (ti_v1 q p))], []) else
      (bif s == 2 then some ([.dat (.int IntKind.u64 q), .dat (.int .i64 0)], []) else some ([.dat (.int IntKind.u64 (ti_v0 q p)), .dat (.int .i64 0)], [])))))) := by kernel_rfl
theorem need_case0 (s q p : Int) : runF (envOf tab SpA1 [] [] []) true Try.f22 [.dat (.int .i64 s), .dat (.int .u64 q), .dat (.int .u64 p)] [] = FunT.run C_need [.dat (.int .i64 s), .dat (.int .u64 q), .dat (.int .u64 p)] [] := (need_raw0 s q p).trans (by
  show _ = (some (([.dat (.int IntKind.u64 (bif s != 1 then bif s != 2 then 0 else bif q == 0 then 0 else bif p == 0 then 0 else bif ti_v1 q p != 0 then 0 else bif s == 2 then q else ti_v0 q p else bif q == 0 then 0 else bif p == 0 then 0 else bif ti_v1 q p != 0 then 0 else bif s == 2 then q else ti_v0 q p)), .dat (.int .i64 (bif s != 1 then bif s != 2 then 1 else bif q == 0 then 1 else bif p == 0 then 1 else bif ti_v1 q p != 0 then ti_v1 q p else 0 else bif q == 0 then 1 else bif p == 0 then 1 else bif ti_v1 q p != 0 then ti_v1 q p else 0))], []) : Res))
  generalize (ti_v1 q p != 0) = z0
  generalize (s == 2) = z1
  generalize (s != 2) = z2
  generalize (q == 0) = z3
  generalize (p == 0) = z4
  generalize (s != 1) = z5
  cases z5 with
  | true =>
   cases z2 with
   | true =>
    rfl
   | false =>
    cases z3 with
    | true =>
     rfl
    | false =>
     cases z4 with
     | true =>
      rfl
     | false =>
      cases z0 with
      | true =>
       rfl
      | false =>
       cases z1 with
       | true =>
        rfl
       | false =>
        rfl
  | false =>
   cases z3 with
   | true =>
    rfl
   | false =>
    cases z4 with
    | true =>
     rfl
    | false =>
     cases z0 with
     | true =>
      rfl
     | false =>
      cases z1 with
      | true =>
       rfl
      | false =>
       rfl
  )
theorem cneed_ok : FunOk Try.prog 22 (FunT.run C_need) := by
  refine fun_ok (E := envOf tab SpA1 [] [] []) (fz := true) (fn := Try.f22) (envOf_ok progOk SpA1_ok) (by kernel_rfl) (by kernel_rfl) (loops_none (by kernel_rfl)) ?_
  intro args σ r h
  unfold C_need at h
  split at h
  · exact (need_case0 _ _ _).trans h
  · simp [T.run_fail] at h
def rneed_v0 (s : Int) (q : Int) (p : Int) : Int := bif decide (s < 1) then 0 else bif decide (2 < s) then 0 else bif q == 0 then 0 else bif p == 0 then 0 else bif rti_v1 q p == 0 then bif s == 2 then q else rti_v0 q p else rti_v0 q p
def rneed_v1 (s : Int) (q : Int) (p : Int) : Int := bif decide (s < 1) then 1 else bif decide (2 < s) then 1 else bif q == 0 then 1 else bif p == 0 then 1 else rti_v1 q p
def rneed_pre (s : Int) (q : Int) (p : Int) : Bool := decide (s < 1) || (decide (2 < s) || (q == 0 || (p == 0 || rti_pre q)))
def C_rneed : FunT := fun args σ => match args, σ with
  | [AV.dat (D.int IntKind.i64 s), AV.dat (D.int IntKind.u64 q), AV.dat (D.int IntKind.u64 p)], [] => .chk ((rneed_pre s q p)) (.leaf ([AV.dat (D.int IntKind.u64 (rneed_v0 s q p)), AV.dat (D.int IntKind.i64 (rneed_v1 s q p))], []))
  | _, _ => .fail
theorem rneed_raw0 (s q p : Int) : runF (envOf tab SpA1 [] [] []) true Try.f25 [.dat (.int .i64 s), .dat (.int .u64 q), .dat (.int .u64 p)] [] =
  (bif decide (s < 1) then some ([.dat (.int IntKind.u64 0), .dat (.int .i64 1)], []) else
   (bif decide (s > 2) then some ([.dat (.int IntKind.u64 0), .dat (.int .i64 1)], []) else
    (bif q == 0 then some ([.dat (.int IntKind.u64 0), .dat (.int .i64 1)], []) else
     (bif p == 0 then some ([.dat (.int IntKind.u64 0), .dat (.int .i64 1)], []) else
      (bif rti_pre q then
       (bif rti_v1 q p == 0 then
        (bif s == 2 then some ([.dat (.int IntKind.u64 q), .dat (.int .i64 (rti_v1 q p))], []) else some ([.dat (.int IntKind.u64 (rti_v0 q p)), .dat (.int .i64 (rti_v1 q p))], [])) else some ([.dat (.int IntKind.u64 (rti_v0 q p)), .dat (.int .i64 (rti_v1 q p))], [])) else none))))) := by kernel_rfl
theorem rneed_case0 (s q p : Int) : runF (envOf tab SpA1 [] [] []) true Try.f25 [.dat (.int .i64 s), .dat (.int .u64 q), .dat (.int .u64 p)] [] = FunT.run C_rneed [.dat (.int .i64 s), .dat (.int .u64 q), .dat (.int .u64 p)] [] := (rneed_raw0 s q p).trans (by
  show _ = (cond (decide (s < 1) || (decide (2 < s) || (q == 0 || (p == 0 || rti_pre q)))) (some (([.dat (.int IntKind.u64 (bif decide (s < 1) then 0 else bif decide (2 < s) then 0 else bif q == 0 then 0 else bif p == 0 then 0 else bif rti_v1 q p == 0 then bif s == 2 then q else rti_v0 q p else rti_v0 q p)), .dat (.int .i64 (bif decide (s < 1) then 1 else bif decide (2 < s) then 1 else bif q == 0 then 1 else bif p == 0 then 1 else rti_v1 q p))], []) : Res)) none)
  generalize (decide (2 < s)) = z0
  generalize (decide (s < 1)) = z1
  generalize (rti_v1 q p == 0) = z2
  generalize (s == 2) = z3
  generalize (p == 0) = z4
  generalize (q == 0) = z5
  generalize (rti_pre q) = z6
  cases z1 with
  | true =>
   rfl
  | false =>
   cases z0 with
   | true =>
    rfl
   | false =>
    cases z5 with
    | true =>
     rfl
    | false =>
     cases z4 with
     | true =>
      rfl
     | false =>
      cases z6 with
      | true =>
       cases z2 with
       | true =>
        cases z3 with
        | true =>
         rfl
        | false =>
         rfl
       | false =>
        rfl
      | false =>
       rfl
  )
theorem crneed_ok : FunOk Try.prog 25 (FunT.run C_rneed) := by
  refine fun_ok (E := envOf tab SpA1 [] [] []) (fz := true) (fn := Try.f25) (envOf_ok progOk SpA1_ok) (by kernel_rfl) (by kernel_rfl) (loops_none (by kernel_rfl)) ?_
  intro args σ r h
  unfold C_rneed at h
  split at h
  · exact (rneed_case0 _ _ _).trans h
  · simp [T.run_fail] at h
def C_nanu : FunT := fun args σ => match args, σ with
  | [AV.dat (D.int IntKind.u64 n)], [] => .leaf ([AV.dat (D.bool (n != n))], [])
  | _, _ => .fail
theorem nanu_raw0 (n : Int) : runF (envOf tab [] [] [] []) true Try.f60 [.dat (.int .u64 n)] [] =some ([.dat (.bool (n != n))], []) := by kernel_rfl
theorem nanu_case0 (n : Int) : runF (envOf tab [] [] [] []) true Try.f60 [.dat (.int .u64 n)] [] = FunT.run C_nanu [.dat (.int .u64 n)] [] := (nanu_raw0 n).trans (by
  show _ = (some (([.dat (.bool (n != n))], []) : Res))
  rfl
  )
theorem cnanu_ok : FunOk Try.prog 60 (FunT.run C_nanu) := by
  refine fun_ok (E := envOf tab [] [] [] []) (fz := true) (fn := Try.f60) (envOf_ok progOk (.nil _)) (by kernel_rfl) (by kernel_rfl) (loops_none (by kernel_rfl)) ?_
  intro args σ r h
  unfold C_nanu at h
  split at h
  · exact (nanu_case0 _).trans h
  · simp [T.run_fail] at h
def C_nani : FunT := fun args σ => match args, σ with
  | [AV.dat (D.int IntKind.i64 n)], [] => .leaf ([AV.dat (D.bool (n != n))], [])
  | _, _ => .fail
theorem nani_raw0 (n : Int) : runF (envOf tab [] [] [] []) true Try.f61 [.dat (.int .i64 n)] [] =some ([.dat (.bool (n != n))], []) := by kernel_rfl
theorem nani_case0 (n : Int) : runF (envOf tab [] [] [] []) true Try.f61 [.dat (.int .i64 n)] [] = FunT.run C_nani [.dat (.int .i64 n)] [] := (nani_raw0 n).trans (by
  show _ = (some (([.dat (.bool (n != n))], []) : Res))
  rfl
  )
theorem cnani_ok : FunOk Try.prog 61 (FunT.run C_nani) := by
  refine fun_ok (E := envOf tab [] [] [] []) (fz := true) (fn := Try.f61) (envOf_ok progOk (.nil _)) (by kernel_rfl) (by kernel_rfl) (loops_none (by kernel_rfl)) ?_
  intro args σ r h
  unfold C_nani at h
  split at h
  · exact (nani_case0 _).trans h
  · simp [T.run_fail] at h
abbrev SpA2 : Specs := [(60, C_nanu), (61, C_nani)]
theorem SpA2_ok : SpecsOk Try.prog SpA2 := .cons cnanu_ok (.cons cnani_ok (.nil _))
def cmpu_v0 (a : Int) (b : Int) : Int := bif a != a then bif b != b then 0 else (-1 : Int) else bif b != b then 1 else bif decide (a < b) then (-1 : Int) else bif decide (b < a) then 1 else 0
def C_cmpu : FunT := fun args σ => match args, σ with
  | [AV.dat (D.int IntKind.u64 a), AV.dat (D.int IntKind.u64 b)], [] => .leaf ([AV.dat (D.int IntKind.i64 (cmpu_v0 a b))], [])
  | _, _ => .fail
theorem cmpu_raw0 (a b : Int) : runF (envOf tab SpA2 [] [] []) true Try.f38 [.dat (.int .u64 a), .dat (.int .u64 b)] [] =
  (bif a != a then
   (bif b != b then some ([.dat (.int .i64 0)], []) else some ([.dat (.int .i64 (-1 : Int))], [])) else
   (bif b != b then some ([.dat (.int .i64 1)], []) else
    (bif decide (a < b) then some ([.dat (.int .i64 (-1 : Int))], []) else
     (bif decide (a > b) then some ([.dat (.int .i64 1)], []) else some ([.dat (.int .i64 0)], []))))) := by kernel_rfl
theorem cmpu_case0 (a b : Int) : runF (envOf tab SpA2 [] [] []) true Try.f38 [.dat (.int .u64 a), .dat (.int .u64 b)] [] = FunT.run C_cmpu [.dat (.int .u64 a), .dat (.int .u64 b)] [] := (cmpu_raw0 a b).trans (by
  show _ = (some (([.dat (.int .i64 (bif a != a then bif b != b then 0 else (-1 : Int) else bif b != b then 1 else bif decide (a < b) then (-1 : Int) else bif decide (b < a) then 1 else 0))], []) : Res))
  generalize (decide (a < b)) = z0
  generalize (decide (b < a)) = z1
  generalize (a != a) = z2
  generalize (b != b) = z3
  cases z2 with
  | true =>
   cases z3 with
   | true =>
    rfl
   | false =>
    rfl
  | false =>
   cases z3 with
   | true =>
    rfl
   | false =>
    cases z0 with
    | true =>
     rfl
    | false =>
     cases z1 with
     | true =>
      rfl
     | false =>
      rfl
  )
theorem ccmpu_ok : FunOk Try.prog 38 (FunT.run C_cmpu) := by
  refine fun_ok (E := envOf tab SpA2 [] [] []) (fz := true) (fn := Try.f38) (envOf_ok progOk SpA2_ok) (by kernel_rfl) (by kernel_rfl) (loops_none (by kernel_rfl)) ?_
  intro args σ r h
  unfold C_cmpu at h
  split at h
  · exact (cmpu_case0 _ _).trans h
  · simp [T.run_fail] at h
def cmpi_v0 (a : Int) (b : Int) : Int := bif a != a then bif b != b then 0 else (-1 : Int) else bif b != b then 1 else bif decide (a < b) then (-1 : Int) else bif decide (b < a) then 1 else 0
def C_cmpi : FunT := fun args σ => match args, σ with
  | [AV.dat (D.int IntKind.i64 a), AV.dat (D.int IntKind.i64 b)], [] => .leaf ([AV.dat (D.int IntKind.i64 (cmpi_v0 a b))], [])
  | _, _ => .fail
theorem cmpi_raw0 (a b : Int) : runF (envOf tab SpA2 [] [] []) true Try.f39 [.dat (.int .i64 a), .dat (.int .i64 b)] [] =
  (bif a != a then
   (bif b != b then some ([.dat (.int .i64 0)], []) else some ([.dat (.int .i64 (-1 : Int))], [])) else
   (bif b != b then some ([.dat (.int .i64 1)], []) else
    (bif decide (a < b) then some ([.dat (.int .i64 (-1 : Int))], []) else
     (bif decide (a > b) then some ([.dat (.int .i64 1)], []) else some ([.dat (.int .i64 0)], []))))) := by kernel_rfl
theorem cmpi_case0 (a b : Int) : runF (envOf tab SpA2 [] [] []) true Try.f39 [.dat (.int .i64 a), .dat (.int .i64 b)] [] = FunT.run C_cmpi [.dat (.int .i64 a), .dat (.int .i64 b)] [] := (cmpi_raw0 a b).trans (by
  show _ = (some (([.dat (.int .i64 (bif a != a then bif b != b then 0 else (-1 : Int) else bif b != b then 1 else bif decide (a < b) then (-1 : Int) else bif decide (b < a) then 1 else 0))], []) : Res))
  generalize (decide (a < b)) = z0
  generalize (decide (b < a)) = z1
  generalize (a != a) = z2
  generalize (b != b) = z3
  cases z2 with
  | true =>
   cases z3 with
   | true =>
    rfl
   | false =>
    rfl
  | false =>
   cases z3 with
   | true =>
    rfl
   | false =>
    cases z0 with
    | true =>
     rfl
    | false =>
     cases z1 with
     | true =>
      rfl
     | false =>
      rfl
  )
theorem ccmpi_ok : FunOk Try.prog 39 (FunT.run C_cmpi) := by
  refine fun_ok (E := envOf tab SpA2 [] [] []) (fz := true) (fn := Try.f39) (envOf_ok progOk SpA2_ok) (by kernel_rfl) (by kernel_rfl) (loops_none (by kernel_rfl)) ?_
  intro args σ r h
  unfold C_cmpi at h
  split at h
  · exact (cmpi_case0 _ _).trans h
  · simp [T.run_fail] at h
def beh_v0 (r : Int) (li : Int) (r1 : Int) (li1 : Int) : Bool := decide (r1 < r) || r == r1 && decide (li > li1)
def C_beh : FunT := fun args σ => match args, σ with
  | [AV.dat (D.agg [D.int IntKind.u64 r, D.int IntKind.i64 li, D.int IntKind.i64 _, D.int IntKind.i64 _, D.int IntKind.i64 _, D.int IntKind.i64 _, D.int IntKind.i64 _, D.int IntKind.u64 _, D.int IntKind.u64 _, D.int IntKind.i64 _]), AV.dat (D.agg [D.int IntKind.u64 r1, D.int IntKind.i64 li1, D.int IntKind.i64 _, D.int IntKind.i64 _, D.int IntKind.i64 _, D.int IntKind.i64 _, D.int IntKind.i64 _, D.int IntKind.u64 _, D.int IntKind.u64 _, D.int IntKind.i64 _])], [] => .leaf ([AV.dat (D.bool (beh_v0 r li r1 li1))], [])
  | _, _ => .fail
theorem beh_raw0 (r li la wh si ba qu qt pr sl r1 li1 la1 wh1 si1 ba1 qu1 qt1 pr1 sl1 : Int) : runF (envOf tab [] [] [] []) true Try.f20 [.dat (entD r li la wh si ba qu qt pr sl), .dat (entD r1 li1 la1 wh1 si1 ba1 qu1 qt1 pr1 sl1)] [] =
  (bif decide (r > r1) then some ([.dat (.bool true)], []) else
   (bif r == r1 then some ([.dat (.bool (decide (li > li1)))], []) else some ([.dat (.bool false)], []))) := by kernel_rfl
theorem beh_case0 (r li la wh si ba qu qt pr sl r1 li1 la1 wh1 si1 ba1 qu1 qt1 pr1 sl1 : Int) : runF (envOf tab [] [] [] []) true Try.f20 [.dat (entD r li la wh si ba qu qt pr sl), .dat (entD r1 li1 la1 wh1 si1 ba1 qu1 qt1 pr1 sl1)] [] = FunT.run C_beh [.dat (entD r li la wh si ba qu qt pr sl), .dat (entD r1 li1 la1 wh1 si1 ba1 qu1 qt1 pr1 sl1)] [] := (beh_raw0 r li la wh si ba qu qt pr sl r1 li1 la1 wh1 si1 ba1 qu1 qt1 pr1 sl1).trans (by
  show _ = (some (([.dat (.bool (decide (r1 < r) || r == r1 && decide (li > li1)))], []) : Res))
  generalize (decide (r1 < r)) = z0
  generalize (r == r1) = z1
  cases z0 with
  | true =>
   rfl
  | false =>
   cases z1 with
   | true =>
    rfl
   | false =>
    rfl
  )
theorem cbeh_ok : FunOk Try.prog 20 (FunT.run C_beh) := by
  refine fun_ok (E := envOf tab [] [] [] []) (fz := true) (fn := Try.f20) (envOf_ok progOk (.nil _)) (by kernel_rfl) (by kernel_rfl) (loops_none (by kernel_rfl)) ?_
  intro args σ r h
  unfold C_beh at h
  split at h
  · exact (beh_case0 _ _ _ _ _ _ _ _ _ _ _ _ _ _ _ _ _ _ _ _).trans h
  · simp [T.run_fail] at h
end Go.Proofs.Ytdmmobjegfhneaa
