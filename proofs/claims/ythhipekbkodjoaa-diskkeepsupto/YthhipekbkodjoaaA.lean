/- Seat 07: the disk, its small parts. -/
import Derived.Test.YthhipekbkodjoaaTab
import Derived.Test.YthhipekbkodjoaaAx29
namespace Go.Proofs.Ythhipekbkodjoaa
open Go.AX
set_option maxRecDepth 100000
abbrev dB (m k : Nat) (ws : List D) (f : Int) (o : Bool) : Blk := ⟨.agg [.one, .one, .one, .one], false, false, .agg [.sref (.arr .one 128) 1 m [] 0 k, .dat (.slc (.agg [.one, .arr .one 128]) ws), .dat (.int .i64 f), .dat (.bool o)]⟩
abbrev sB (sf : List D) : Blk := mkDyn (.arr .one 128) sf
abbrev dP : AV := .ptr (.agg [.one, .one, .one, .one]) 0 0 []
def made_v0 (k : Nat) : Bool := decide ((↑k : Int) > 0)
def C_made : FunT := fun args σ => match args, σ with
  | [AV.ptr (Sh.agg [Sh.one, Sh.one, Sh.one, Sh.one]) 0 0 []], [{ sh := Sh.agg [Sh.one, Sh.one, Sh.one, Sh.one], dyn := false, frz := false, v := AV.agg [AV.sref (Sh.arr Sh.one 128) 1 m [] 0 k, AV.dat (D.slc (Sh.agg [Sh.one, Sh.arr Sh.one 128]) ws), AV.dat (D.int IntKind.i64 f), AV.dat (D.bool o)] }, { sh := Sh.arr (Sh.arr Sh.one 128) 0, dyn := true, frz := false, v := AV.dat (D.arr (Sh.arr Sh.one 128) sf) }] => .leaf ([AV.dat (D.bool (made_v0 k))], [{ sh := s61, dyn := false, frz := false, v := AV.agg [AV.sref (Sh.arr Sh.one 128) 1 m [] 0 k, AV.dat (D.slc (s67) ws), AV.dat (D.int IntKind.i64 f), AV.dat (D.bool o)] }, { sh := Sh.arr (Sh.arr Sh.one 128) 0, dyn := true, frz := false, v := AV.dat (D.arr (Sh.arr Sh.one 128) sf) }])
  | [AV.dat D.nilp], [] => .leaf ([AV.dat (D.bool false)], [])
  | _, _ => .fail
theorem made_raw0 (m k : Nat) (ws sf : List D) (f : Int) (o : Bool) : runF (envOf tab [] [] [] []) false Try.f27 [dP] [dB m k ws f o, sB sf] =some ([.dat (.bool (decide ((↑k : Int) > 0)))], [{ sh := s61, dyn := false, frz := false, v := AV.agg [AV.sref (Sh.arr Sh.one 128) 1 m [] 0 k, .dat (.slc (s67) ws), .dat (.int .i64 f), .dat (.bool o)] }, { sh := Sh.arr (Sh.arr Sh.one 128) 0, dyn := true, frz := false, v := .dat (.arr (Sh.arr Sh.one 128) sf) }]) := by kernel_rfl
theorem made_case0 (m k : Nat) (ws sf : List D) (f : Int) (o : Bool) : runF (envOf tab [] [] [] []) false Try.f27 [dP] [dB m k ws f o, sB sf] = FunT.run C_made [dP] [dB m k ws f o, sB sf] := (made_raw0 m k ws sf f o).trans (by
  show _ = (some (([.dat (.bool (decide ((↑k : Int) > 0)))], [{ sh := s61, dyn := false, frz := false, v := AV.agg [AV.sref (Sh.arr Sh.one 128) 1 m [] 0 k, .dat (.slc (s67) ws), .dat (.int .i64 f), .dat (.bool o)] }, { sh := Sh.arr (Sh.arr Sh.one 128) 0, dyn := true, frz := false, v := .dat (.arr (Sh.arr Sh.one 128) sf) }]) : Res))
  rfl
  )
theorem made_raw1  : runF (envOf tab [] [] [] []) false Try.f27 [.dat .nilp] [] =some ([.dat (.bool false)], []) := by kernel_rfl
theorem made_case1  : runF (envOf tab [] [] [] []) false Try.f27 [.dat .nilp] [] = FunT.run C_made [.dat .nilp] [] := (made_raw1).trans (by
  show _ = (some (([.dat (.bool false)], []) : Res))
  rfl
  )
theorem cmade_ok : FunOk Try.prog 27 (FunT.run C_made) := by
  refine fun_ok (E := envOf tab [] [] [] []) (fz := false) (fn := Try.f27) (envOf_ok progOk (.nil _)) (by kernel_rfl) (by kernel_rfl) (loops_none (by kernel_rfl)) ?_
  intro args σ r h
  unfold C_made at h
  split at h
  · exact (made_case0 _ _ _ _ _ _).trans h
  · exact (made_case1).trans h
  · simp [T.run_fail] at h
abbrev Sp1 : Specs := [(27, C_made)]
theorem Sp1_ok : SpecsOk Try.prog Sp1 := .cons cmade_ok (.nil _)
def size_v0 (k : Nat) : Int := bif made_v0 k then (↑k : Int) else 0
def C_size : FunT := fun args σ => match args, σ with
  | [AV.ptr (Sh.agg [Sh.one, Sh.one, Sh.one, Sh.one]) 0 0 []], [{ sh := Sh.agg [Sh.one, Sh.one, Sh.one, Sh.one], dyn := false, frz := false, v := AV.agg [AV.sref (Sh.arr Sh.one 128) 1 m [] 0 k, AV.dat (D.slc (Sh.agg [Sh.one, Sh.arr Sh.one 128]) ws), AV.dat (D.int IntKind.i64 f), AV.dat (D.bool o)] }, { sh := Sh.arr (Sh.arr Sh.one 128) 0, dyn := true, frz := false, v := AV.dat (D.arr (Sh.arr Sh.one 128) sf) }] => .leaf ([AV.dat (D.int IntKind.i64 (size_v0 k))], [{ sh := s61, dyn := false, frz := false, v := AV.agg [AV.sref (Sh.arr Sh.one 128) 1 m [] 0 k, AV.dat (D.slc (s67) ws), AV.dat (D.int IntKind.i64 f), AV.dat (D.bool o)] }, { sh := Sh.arr (Sh.arr Sh.one 128) 0, dyn := true, frz := false, v := AV.dat (D.arr (Sh.arr Sh.one 128) sf) }])
  | [AV.dat D.nilp], [] => .leaf ([AV.dat (D.int IntKind.i64 0)], [])
  | _, _ => .fail
theorem size_raw0 (m k : Nat) (ws sf : List D) (f : Int) (o : Bool) : runF (envOf tab Sp1 [] [] []) false Try.f9 [dP] [dB m k ws f o, sB sf] =
  (bif !made_v0 k then some ([.dat (.int .i64 0)], [{ sh := s61, dyn := false, frz := false, v := AV.agg [AV.sref (Sh.arr Sh.one 128) 1 m [] 0 k, .dat (.slc (s67) ws), .dat (.int .i64 f), .dat (.bool o)] }, { sh := Sh.arr (Sh.arr Sh.one 128) 0, dyn := true, frz := false, v := .dat (.arr (Sh.arr Sh.one 128) sf) }]) else some ([.dat (.int .i64 (↑k : Int))], [{ sh := s61, dyn := false, frz := false, v := AV.agg [AV.sref (Sh.arr Sh.one 128) 1 m [] 0 k, .dat (.slc (s67) ws), .dat (.int .i64 f), .dat (.bool o)] }, { sh := Sh.arr (Sh.arr Sh.one 128) 0, dyn := true, frz := false, v := .dat (.arr (Sh.arr Sh.one 128) sf) }])) := by kernel_rfl
theorem size_case0 (m k : Nat) (ws sf : List D) (f : Int) (o : Bool) : runF (envOf tab Sp1 [] [] []) false Try.f9 [dP] [dB m k ws f o, sB sf] = FunT.run C_size [dP] [dB m k ws f o, sB sf] := (size_raw0 m k ws sf f o).trans (by
  show _ = (some (([.dat (.int .i64 (bif made_v0 k then (↑k : Int) else 0))], [{ sh := s61, dyn := false, frz := false, v := AV.agg [AV.sref (Sh.arr Sh.one 128) 1 m [] 0 k, .dat (.slc (s67) ws), .dat (.int .i64 f), .dat (.bool o)] }, { sh := Sh.arr (Sh.arr Sh.one 128) 0, dyn := true, frz := false, v := .dat (.arr (Sh.arr Sh.one 128) sf) }]) : Res))
  generalize (made_v0 k) = z0
  cases z0 with
  | true =>
   rfl
  | false =>
   rfl
  )
theorem size_raw1  : runF (envOf tab Sp1 [] [] []) false Try.f9 [.dat .nilp] [] =some ([.dat (.int .i64 0)], []) := by kernel_rfl
theorem size_case1  : runF (envOf tab Sp1 [] [] []) false Try.f9 [.dat .nilp] [] = FunT.run C_size [.dat .nilp] [] := (size_raw1).trans (by
  show _ = (some (([.dat (.int .i64 0)], []) : Res))
  rfl
  )
theorem csize_ok : FunOk Try.prog 9 (FunT.run C_size) := by
  refine fun_ok (E := envOf tab Sp1 [] [] []) (fz := false) (fn := Try.f9) (envOf_ok progOk Sp1_ok) (by kernel_rfl) (by kernel_rfl) (loops_none (by kernel_rfl)) ?_
  intro args σ r h
  unfold C_size at h
  split at h
  · exact (size_case0 _ _ _ _ _ _).trans h
  · exact (size_case1).trans h
  · simp [T.run_fail] at h
def able_v0 (k : Nat) (n : Int) (o : Bool) : Int := bif made_v0 k then bif o then 15 else bif decide (n < 0) then 16 else bif decide ((↑k : Int) ≤ n) then 16 else 0 else 11
def C_able : FunT := fun args σ => match args, σ with
  | [AV.ptr (Sh.agg [Sh.one, Sh.one, Sh.one, Sh.one]) 0 0 [], AV.dat (D.int IntKind.i64 n)], [{ sh := Sh.agg [Sh.one, Sh.one, Sh.one, Sh.one], dyn := false, frz := false, v := AV.agg [AV.sref (Sh.arr Sh.one 128) 1 m [] 0 k, AV.dat (D.slc (Sh.agg [Sh.one, Sh.arr Sh.one 128]) ws), AV.dat (D.int IntKind.i64 f), AV.dat (D.bool o)] }, { sh := Sh.arr (Sh.arr Sh.one 128) 0, dyn := true, frz := false, v := AV.dat (D.arr (Sh.arr Sh.one 128) sf) }] => .leaf ([AV.dat (D.int IntKind.i64 (able_v0 k n o))], [{ sh := s61, dyn := false, frz := false, v := AV.agg [AV.sref (Sh.arr Sh.one 128) 1 m [] 0 k, AV.dat (D.slc (s67) ws), AV.dat (D.int IntKind.i64 f), AV.dat (D.bool o)] }, { sh := Sh.arr (Sh.arr Sh.one 128) 0, dyn := true, frz := false, v := AV.dat (D.arr (Sh.arr Sh.one 128) sf) }])
  | [AV.dat D.nilp, AV.dat (D.int IntKind.i64 _)], [] => .leaf ([AV.dat (D.int IntKind.i64 11)], [])
  | _, _ => .fail
theorem able_raw0 (m k : Nat) (ws sf : List D) (f n : Int) (o : Bool) : runF (envOf tab Sp1 [] [] []) false Try.f28 [dP, .dat (.int .i64 n)] [dB m k ws f o, sB sf] =
  (bif !made_v0 k then some ([.dat (.int .i64 11)], [{ sh := s61, dyn := false, frz := false, v := AV.agg [AV.sref (Sh.arr Sh.one 128) 1 m [] 0 k, .dat (.slc (s67) ws), .dat (.int .i64 f), .dat (.bool o)] }, { sh := Sh.arr (Sh.arr Sh.one 128) 0, dyn := true, frz := false, v := .dat (.arr (Sh.arr Sh.one 128) sf) }]) else
   (bif o then some ([.dat (.int .i64 15)], [{ sh := s61, dyn := false, frz := false, v := AV.agg [AV.sref (Sh.arr Sh.one 128) 1 m [] 0 k, .dat (.slc (s67) ws), .dat (.int .i64 f), .dat (.bool o)] }, { sh := Sh.arr (Sh.arr Sh.one 128) 0, dyn := true, frz := false, v := .dat (.arr (Sh.arr Sh.one 128) sf) }]) else
    (bif decide (n < 0) then some ([.dat (.int .i64 16)], [{ sh := s61, dyn := false, frz := false, v := AV.agg [AV.sref (Sh.arr Sh.one 128) 1 m [] 0 k, .dat (.slc (s67) ws), .dat (.int .i64 f), .dat (.bool o)] }, { sh := Sh.arr (Sh.arr Sh.one 128) 0, dyn := true, frz := false, v := .dat (.arr (Sh.arr Sh.one 128) sf) }]) else
     (bif decide (n ≥ (↑k : Int)) then some ([.dat (.int .i64 16)], [{ sh := s61, dyn := false, frz := false, v := AV.agg [AV.sref (Sh.arr Sh.one 128) 1 m [] 0 k, .dat (.slc (s67) ws), .dat (.int .i64 f), .dat (.bool o)] }, { sh := Sh.arr (Sh.arr Sh.one 128) 0, dyn := true, frz := false, v := .dat (.arr (Sh.arr Sh.one 128) sf) }]) else some ([.dat (.int .i64 0)], [{ sh := s61, dyn := false, frz := false, v := AV.agg [AV.sref (Sh.arr Sh.one 128) 1 m [] 0 k, .dat (.slc (s67) ws), .dat (.int .i64 f), .dat (.bool o)] }, { sh := Sh.arr (Sh.arr Sh.one 128) 0, dyn := true, frz := false, v := .dat (.arr (Sh.arr Sh.one 128) sf) }]))))) := by kernel_rfl
theorem able_case0 (m k : Nat) (ws sf : List D) (f n : Int) (o : Bool) : runF (envOf tab Sp1 [] [] []) false Try.f28 [dP, .dat (.int .i64 n)] [dB m k ws f o, sB sf] = FunT.run C_able [dP, .dat (.int .i64 n)] [dB m k ws f o, sB sf] := (able_raw0 m k ws sf f n o).trans (by
  show _ = (some (([.dat (.int .i64 (bif made_v0 k then bif o then 15 else bif decide (n < 0) then 16 else bif decide ((↑k : Int) ≤ n) then 16 else 0 else 11))], [{ sh := s61, dyn := false, frz := false, v := AV.agg [AV.sref (Sh.arr Sh.one 128) 1 m [] 0 k, .dat (.slc (s67) ws), .dat (.int .i64 f), .dat (.bool o)] }, { sh := Sh.arr (Sh.arr Sh.one 128) 0, dyn := true, frz := false, v := .dat (.arr (Sh.arr Sh.one 128) sf) }]) : Res))
  generalize (decide (n < 0)) = z0
  generalize (decide ((↑k : Int) ≤ n)) = z1
  generalize (made_v0 k) = z2
  generalize (o) = z3
  cases z2 with
  | true =>
   cases z3 with
   | true =>
    rfl
   | false =>
    cases z0 with
    | true =>
     rfl
    | false =>
     cases z1 with
     | true =>
      rfl
     | false =>
      rfl
  | false =>
   rfl
  )
theorem able_raw1 (n : Int) : runF (envOf tab Sp1 [] [] []) false Try.f28 [.dat .nilp, .dat (.int .i64 n)] [] =some ([.dat (.int .i64 11)], []) := by kernel_rfl
theorem able_case1 (n : Int) : runF (envOf tab Sp1 [] [] []) false Try.f28 [.dat .nilp, .dat (.int .i64 n)] [] = FunT.run C_able [.dat .nilp, .dat (.int .i64 n)] [] := (able_raw1 n).trans (by
  show _ = (some (([.dat (.int .i64 11)], []) : Res))
  rfl
  )
theorem cable_ok : FunOk Try.prog 28 (FunT.run C_able) := by
  refine fun_ok (E := envOf tab Sp1 [] [] []) (fz := false) (fn := Try.f28) (envOf_ok progOk Sp1_ok) (by kernel_rfl) (by kernel_rfl) (loops_none (by kernel_rfl)) ?_
  intro args σ r h
  unfold C_able at h
  split at h
  · exact (able_case0 _ _ _ _ _ _ _).trans h
  · exact (able_case1 _).trans h
  · simp [T.run_fail] at h
def burns_v0 (f : Int) : Bool := !decide (f < 0) && f == 0
def burns_v1 (f : Int) : Int := bif decide (f < 0) then f else IntKind.wrap IntKind.i64 (f - 1)
def burns_v2 (f : Int) (o : Bool) : Bool := bif decide (f < 0) then o else f == 0
def C_burns : FunT := fun args σ => match args, σ with
  | [AV.ptr (Sh.agg [Sh.one, Sh.one, Sh.one, Sh.one]) 0 0 []], [{ sh := Sh.agg [Sh.one, Sh.one, Sh.one, Sh.one], dyn := false, frz := false, v := AV.agg [AV.sref (Sh.arr Sh.one 128) 1 m [] 0 k, AV.dat (D.slc (Sh.agg [Sh.one, Sh.arr Sh.one 128]) ws), AV.dat (D.int IntKind.i64 f), AV.dat (D.bool o)] }, { sh := Sh.arr (Sh.arr Sh.one 128) 0, dyn := true, frz := false, v := AV.dat (D.arr (Sh.arr Sh.one 128) sf) }] => .leaf ([AV.dat (D.bool (burns_v0 f))], [{ sh := s61, dyn := false, frz := false, v := AV.agg [AV.sref (Sh.arr Sh.one 128) 1 m [] 0 k, AV.dat (D.slc (s67) ws), AV.dat (D.int IntKind.i64 (burns_v1 f)), AV.dat (D.bool (burns_v2 f o))] }, { sh := Sh.arr (Sh.arr Sh.one 128) 0, dyn := true, frz := false, v := AV.dat (D.arr (Sh.arr Sh.one 128) sf) }])
  | _, _ => .fail
theorem burns_raw0 (m k : Nat) (ws sf : List D) (f : Int) (o : Bool) : runF (envOf tab [] [] [] []) false Try.f30 [dP] [dB m k ws f o, sB sf] =
  (bif decide (f < 0) then some ([.dat (.bool false)], [{ sh := s61, dyn := false, frz := false, v := AV.agg [AV.sref (Sh.arr Sh.one 128) 1 m [] 0 k, .dat (.slc (s67) ws), .dat (.int .i64 f), .dat (.bool o)] }, { sh := Sh.arr (Sh.arr Sh.one 128) 0, dyn := true, frz := false, v := .dat (.arr (Sh.arr Sh.one 128) sf) }]) else some ([.dat (.bool (f == 0))], [{ sh := s61, dyn := false, frz := false, v := AV.agg [AV.sref (Sh.arr Sh.one 128) 1 m [] 0 k, .dat (.slc (s67) ws), .dat (.int .i64 (IntKind.wrap IntKind.i64 (f - 1))), .dat (.bool (f == 0))] }, { sh := Sh.arr (Sh.arr Sh.one 128) 0, dyn := true, frz := false, v := .dat (.arr (Sh.arr Sh.one 128) sf) }])) := by kernel_rfl
theorem burns_case0 (m k : Nat) (ws sf : List D) (f : Int) (o : Bool) : runF (envOf tab [] [] [] []) false Try.f30 [dP] [dB m k ws f o, sB sf] = FunT.run C_burns [dP] [dB m k ws f o, sB sf] := (burns_raw0 m k ws sf f o).trans (by
  show _ = (some (([.dat (.bool (!decide (f < 0) && f == 0))], [{ sh := s61, dyn := false, frz := false, v := AV.agg [AV.sref (Sh.arr Sh.one 128) 1 m [] 0 k, .dat (.slc (s67) ws), .dat (.int .i64 (bif decide (f < 0) then f else IntKind.wrap IntKind.i64 (f - 1))), .dat (.bool (bif decide (f < 0) then o else f == 0))] }, { sh := Sh.arr (Sh.arr Sh.one 128) 0, dyn := true, frz := false, v := .dat (.arr (Sh.arr Sh.one 128) sf) }]) : Res))
  generalize (decide (f < 0)) = z0
  cases z0 with
  | true =>
   rfl
  | false =>
   rfl
  )
theorem cburns_ok : FunOk Try.prog 30 (FunT.run C_burns) := by
  refine fun_ok (E := envOf tab [] [] [] []) (fz := false) (fn := Try.f30) (envOf_ok progOk (.nil _)) (by kernel_rfl) (by kernel_rfl) (loops_none (by kernel_rfl)) ?_
  intro args σ r h
  unfold C_burns at h
  split at h
  · exact (burns_case0 _ _ _ _ _ _).trans h
  · simp [T.run_fail] at h
def off_v0 (k : Nat) (o : Bool) : Bool := made_v0 k && o
def C_off : FunT := fun args σ => match args, σ with
  | [AV.ptr (Sh.agg [Sh.one, Sh.one, Sh.one, Sh.one]) 0 0 []], [{ sh := Sh.agg [Sh.one, Sh.one, Sh.one, Sh.one], dyn := false, frz := false, v := AV.agg [AV.sref (Sh.arr Sh.one 128) 1 m [] 0 k, AV.dat (D.slc (Sh.agg [Sh.one, Sh.arr Sh.one 128]) ws), AV.dat (D.int IntKind.i64 f), AV.dat (D.bool o)] }, { sh := Sh.arr (Sh.arr Sh.one 128) 0, dyn := true, frz := false, v := AV.dat (D.arr (Sh.arr Sh.one 128) sf) }] => .leaf ([AV.dat (D.bool (off_v0 k o))], [{ sh := s61, dyn := false, frz := false, v := AV.agg [AV.sref (Sh.arr Sh.one 128) 1 m [] 0 k, AV.dat (D.slc (s67) ws), AV.dat (D.int IntKind.i64 f), AV.dat (D.bool o)] }, { sh := Sh.arr (Sh.arr Sh.one 128) 0, dyn := true, frz := false, v := AV.dat (D.arr (Sh.arr Sh.one 128) sf) }])
  | _, _ => .fail
theorem off_raw0 (m k : Nat) (ws sf : List D) (f : Int) (o : Bool) : runF (envOf tab Sp1 [] [] []) false Try.f25 [dP] [dB m k ws f o, sB sf] =
  (bif made_v0 k then some ([.dat (.bool o)], [{ sh := s61, dyn := false, frz := false, v := AV.agg [AV.sref (Sh.arr Sh.one 128) 1 m [] 0 k, .dat (.slc (s67) ws), .dat (.int .i64 f), .dat (.bool o)] }, { sh := Sh.arr (Sh.arr Sh.one 128) 0, dyn := true, frz := false, v := .dat (.arr (Sh.arr Sh.one 128) sf) }]) else some ([.dat (.bool false)], [{ sh := s61, dyn := false, frz := false, v := AV.agg [AV.sref (Sh.arr Sh.one 128) 1 m [] 0 k, .dat (.slc (s67) ws), .dat (.int .i64 f), .dat (.bool o)] }, { sh := Sh.arr (Sh.arr Sh.one 128) 0, dyn := true, frz := false, v := .dat (.arr (Sh.arr Sh.one 128) sf) }])) := by kernel_rfl
theorem off_case0 (m k : Nat) (ws sf : List D) (f : Int) (o : Bool) : runF (envOf tab Sp1 [] [] []) false Try.f25 [dP] [dB m k ws f o, sB sf] = FunT.run C_off [dP] [dB m k ws f o, sB sf] := (off_raw0 m k ws sf f o).trans (by
  show _ = (some (([.dat (.bool (made_v0 k && o))], [{ sh := s61, dyn := false, frz := false, v := AV.agg [AV.sref (Sh.arr Sh.one 128) 1 m [] 0 k, .dat (.slc (s67) ws), .dat (.int .i64 f), .dat (.bool o)] }, { sh := Sh.arr (Sh.arr Sh.one 128) 0, dyn := true, frz := false, v := .dat (.arr (Sh.arr Sh.one 128) sf) }]) : Res))
  generalize (made_v0 k) = z0
  cases z0 with
  | true =>
   rfl
  | false =>
   rfl
  )
theorem coff_ok : FunOk Try.prog 25 (FunT.run C_off) := by
  refine fun_ok (E := envOf tab Sp1 [] [] []) (fz := false) (fn := Try.f25) (envOf_ok progOk Sp1_ok) (by kernel_rfl) (by kernel_rfl) (loops_none (by kernel_rfl)) ?_
  intro args σ r h
  unfold C_off at h
  split at h
  · exact (off_case0 _ _ _ _ _ _).trans h
  · simp [T.run_fail] at h
def waits_v0 (k : Nat) (ws : List D) : Int := bif made_v0 k then (↑(List.length ws) : Int) else 0
def C_waits : FunT := fun args σ => match args, σ with
  | [AV.ptr (Sh.agg [Sh.one, Sh.one, Sh.one, Sh.one]) 0 0 []], [{ sh := Sh.agg [Sh.one, Sh.one, Sh.one, Sh.one], dyn := false, frz := false, v := AV.agg [AV.sref (Sh.arr Sh.one 128) 1 m [] 0 k, AV.dat (D.slc (Sh.agg [Sh.one, Sh.arr Sh.one 128]) ws), AV.dat (D.int IntKind.i64 f), AV.dat (D.bool o)] }, { sh := Sh.arr (Sh.arr Sh.one 128) 0, dyn := true, frz := false, v := AV.dat (D.arr (Sh.arr Sh.one 128) sf) }] => .leaf ([AV.dat (D.int IntKind.i64 (waits_v0 k ws))], [{ sh := s61, dyn := false, frz := false, v := AV.agg [AV.sref (Sh.arr Sh.one 128) 1 m [] 0 k, AV.dat (D.slc (s67) ws), AV.dat (D.int IntKind.i64 f), AV.dat (D.bool o)] }, { sh := Sh.arr (Sh.arr Sh.one 128) 0, dyn := true, frz := false, v := AV.dat (D.arr (Sh.arr Sh.one 128) sf) }])
  | _, _ => .fail
theorem waits_raw0 (m k : Nat) (ws sf : List D) (f : Int) (o : Bool) : runF (envOf tab Sp1 [] [] []) false Try.f26 [dP] [dB m k ws f o, sB sf] =
  (bif !made_v0 k then some ([.dat (.int .i64 0)], [{ sh := s61, dyn := false, frz := false, v := AV.agg [AV.sref (Sh.arr Sh.one 128) 1 m [] 0 k, .dat (.slc (s67) ws), .dat (.int .i64 f), .dat (.bool o)] }, { sh := Sh.arr (Sh.arr Sh.one 128) 0, dyn := true, frz := false, v := .dat (.arr (Sh.arr Sh.one 128) sf) }]) else some ([.dat (.int .i64 (↑(List.length ws) : Int))], [{ sh := s61, dyn := false, frz := false, v := AV.agg [AV.sref (Sh.arr Sh.one 128) 1 m [] 0 k, .dat (.slc (s67) ws), .dat (.int .i64 f), .dat (.bool o)] }, { sh := Sh.arr (Sh.arr Sh.one 128) 0, dyn := true, frz := false, v := .dat (.arr (Sh.arr Sh.one 128) sf) }])) := by kernel_rfl
theorem waits_case0 (m k : Nat) (ws sf : List D) (f : Int) (o : Bool) : runF (envOf tab Sp1 [] [] []) false Try.f26 [dP] [dB m k ws f o, sB sf] = FunT.run C_waits [dP] [dB m k ws f o, sB sf] := (waits_raw0 m k ws sf f o).trans (by
  show _ = (some (([.dat (.int .i64 (bif made_v0 k then (↑(List.length ws) : Int) else 0))], [{ sh := s61, dyn := false, frz := false, v := AV.agg [AV.sref (Sh.arr Sh.one 128) 1 m [] 0 k, .dat (.slc (s67) ws), .dat (.int .i64 f), .dat (.bool o)] }, { sh := Sh.arr (Sh.arr Sh.one 128) 0, dyn := true, frz := false, v := .dat (.arr (Sh.arr Sh.one 128) sf) }]) : Res))
  generalize (made_v0 k) = z0
  cases z0 with
  | true =>
   rfl
  | false =>
   rfl
  )
theorem cwaits_ok : FunOk Try.prog 26 (FunT.run C_waits) := by
  refine fun_ok (E := envOf tab Sp1 [] [] []) (fz := false) (fn := Try.f26) (envOf_ok progOk Sp1_ok) (by kernel_rfl) (by kernel_rfl) (loops_none (by kernel_rfl)) ?_
  intro args σ r h
  unfold C_waits at h
  split at h
  · exact (waits_case0 _ _ _ _ _ _).trans h
  · simp [T.run_fail] at h
def fuse_v0 (k : Nat) (f : Int) (n : Int) : Int := bif made_v0 k then if (-1 : Int) > n then (-1 : Int) else n else f
def C_fuse : FunT := fun args σ => match args, σ with
  | [AV.ptr (Sh.agg [Sh.one, Sh.one, Sh.one, Sh.one]) 0 0 [], AV.dat (D.int IntKind.i64 n)], [{ sh := Sh.agg [Sh.one, Sh.one, Sh.one, Sh.one], dyn := false, frz := false, v := AV.agg [AV.sref (Sh.arr Sh.one 128) 1 m [] 0 k, AV.dat (D.slc (Sh.agg [Sh.one, Sh.arr Sh.one 128]) ws), AV.dat (D.int IntKind.i64 f), AV.dat (D.bool o)] }, { sh := Sh.arr (Sh.arr Sh.one 128) 0, dyn := true, frz := false, v := AV.dat (D.arr (Sh.arr Sh.one 128) sf) }] => .leaf ([], [{ sh := s61, dyn := false, frz := false, v := AV.agg [AV.sref (Sh.arr Sh.one 128) 1 m [] 0 k, AV.dat (D.slc (s67) ws), AV.dat (D.int IntKind.i64 (fuse_v0 k f n)), AV.dat (D.bool o)] }, { sh := Sh.arr (Sh.arr Sh.one 128) 0, dyn := true, frz := false, v := AV.dat (D.arr (Sh.arr Sh.one 128) sf) }])
  | _, _ => .fail
theorem fuse_raw0 (m k : Nat) (ws sf : List D) (f n : Int) (o : Bool) : runF (envOf tab Sp1 [] [] []) false Try.f15 [dP, .dat (.int .i64 n)] [dB m k ws f o, sB sf] =
  (bif made_v0 k then some ([], [{ sh := s61, dyn := false, frz := false, v := AV.agg [AV.sref (Sh.arr Sh.one 128) 1 m [] 0 k, .dat (.slc (s67) ws), .dat (.int .i64 (if (-1 : Int) > n then (-1 : Int) else n)), .dat (.bool o)] }, { sh := Sh.arr (Sh.arr Sh.one 128) 0, dyn := true, frz := false, v := .dat (.arr (Sh.arr Sh.one 128) sf) }]) else some ([], [{ sh := s61, dyn := false, frz := false, v := AV.agg [AV.sref (Sh.arr Sh.one 128) 1 m [] 0 k, .dat (.slc (s67) ws), .dat (.int .i64 f), .dat (.bool o)] }, { sh := Sh.arr (Sh.arr Sh.one 128) 0, dyn := true, frz := false, v := .dat (.arr (Sh.arr Sh.one 128) sf) }])) := by kernel_rfl
theorem fuse_case0 (m k : Nat) (ws sf : List D) (f n : Int) (o : Bool) : runF (envOf tab Sp1 [] [] []) false Try.f15 [dP, .dat (.int .i64 n)] [dB m k ws f o, sB sf] = FunT.run C_fuse [dP, .dat (.int .i64 n)] [dB m k ws f o, sB sf] := (fuse_raw0 m k ws sf f n o).trans (by
  show _ = (some (([], [{ sh := s61, dyn := false, frz := false, v := AV.agg [AV.sref (Sh.arr Sh.one 128) 1 m [] 0 k, .dat (.slc (s67) ws), .dat (.int .i64 (bif made_v0 k then if (-1 : Int) > n then (-1 : Int) else n else f)), .dat (.bool o)] }, { sh := Sh.arr (Sh.arr Sh.one 128) 0, dyn := true, frz := false, v := .dat (.arr (Sh.arr Sh.one 128) sf) }]) : Res))
  generalize (made_v0 k) = z0
  cases z0 with
  | true =>
   rfl
  | false =>
   rfl
  )
theorem cfuse_ok : FunOk Try.prog 15 (FunT.run C_fuse) := by
  refine fun_ok (E := envOf tab Sp1 [] [] []) (fz := false) (fn := Try.f15) (envOf_ok progOk Sp1_ok) (by kernel_rfl) (by kernel_rfl) (loops_none (by kernel_rfl)) ?_
  intro args σ r h
  unfold C_fuse at h
  split at h
  · exact (fuse_case0 _ _ _ _ _ _ _).trans h
  · simp [T.run_fail] at h
def new_v0 (n : Int) : List D := List.replicate (Int.toNat n) (D.arr Sh.one (List.replicate 128 (D.int IntKind.u8 0)))
def new_pre (n : Int) : Bool := decide (0 ≤ n) && decide (n ≤ n) && decide (n * 128 ≤ 35184372088832) && decide (n ≤ 35184372088832)
def C_new : FunT := fun args σ => match args, σ with
  | [AV.dat (D.int IntKind.i64 n)], [] =>
    .br (decide (n < 1)) (.leaf ([AV.dat D.nilp, .dat (.int .i64 1)], [])) (
     .br (decide (16384 < n)) (.leaf ([AV.dat D.nilp, .dat (.int .i64 1)], [])) (.chk ((new_pre n)) (.leaf ([AV.ptr (s61) 0 0 [], .dat (.int .i64 0)], [{ sh := s61, dyn := false, frz := false, v := AV.agg [AV.sref (Sh.arr Sh.one 128) 1 (Int.toNat n) [] 0 (Int.toNat n), .dat (.slc (s67) []), .dat (.int .i64 (-1 : Int)), .dat (.bool false)] }, { sh := Sh.arr (Sh.arr Sh.one 128) 0, dyn := true, frz := false, v := .dat (.arr (Sh.arr Sh.one 128) (new_v0 n)) }]))))
  | _, _ => .fail
theorem new_raw0 (n : Int) : runF (envOf tab [] [] [] []) false Try.f7 [.dat (.int .i64 n)] [] =
  (bif decide (n < 1) then some ([AV.dat D.nilp, .dat (.int .i64 1)], []) else
   (bif decide (n > 16384) then some ([AV.dat D.nilp, .dat (.int .i64 1)], []) else
    (bif decide (0 ≤ n) && decide (n ≤ n) && decide (n * 128 ≤ 35184372088832) && decide (n ≤ 35184372088832) && true then some ([AV.ptr (s61) 0 0 [], .dat (.int .i64 0)], [{ sh := s61, dyn := false, frz := false, v := AV.agg [AV.sref (Sh.arr Sh.one 128) 1 (Int.toNat n) [] 0 (Int.toNat n), .dat (.slc (s67) []), .dat (.int .i64 (-1 : Int)), .dat (.bool false)] }, { sh := Sh.arr (Sh.arr Sh.one 128) 0, dyn := true, frz := false, v := .dat (.arr (Sh.arr Sh.one 128) (List.replicate (Int.toNat n) (D.arr Sh.one (List.replicate 128 (D.int IntKind.u8 0))))) }]) else none))) := by kernel_rfl
theorem new_case0 (n : Int) : runF (envOf tab [] [] [] []) false Try.f7 [.dat (.int .i64 n)] [] = FunT.run C_new [.dat (.int .i64 n)] [] := (new_raw0 n).trans (by
  show _ = (cond (decide (n < 1)) (some (([AV.dat D.nilp, .dat (.int .i64 1)], []) : Res)) (cond (decide (16384 < n)) (some (([AV.dat D.nilp, .dat (.int .i64 1)], []) : Res)) (cond (decide (0 ≤ n) && decide (n ≤ n) && decide (n * 128 ≤ 35184372088832) && decide (n ≤ 35184372088832)) (some (([AV.ptr (s61) 0 0 [], .dat (.int .i64 0)], [{ sh := s61, dyn := false, frz := false, v := AV.agg [AV.sref (Sh.arr Sh.one 128) 1 (Int.toNat n) [] 0 (Int.toNat n), .dat (.slc (s67) []), .dat (.int .i64 (-1 : Int)), .dat (.bool false)] }, { sh := Sh.arr (Sh.arr Sh.one 128) 0, dyn := true, frz := false, v := .dat (.arr (Sh.arr Sh.one 128) (List.replicate (Int.toNat n) (D.arr Sh.one (List.replicate 128 (D.int IntKind.u8 0))))) }]) : Res)) none)))
  generalize (decide (0 ≤ n) && decide (n ≤ n) && decide (n * 128 ≤ 35184372088832) && decide (n ≤ 35184372088832)) = z0
  generalize (decide (n < 1)) = z1
  generalize (decide (16384 < n)) = z2
  cases z1 with
  | true =>
   rfl
  | false =>
   cases z2 with
   | true =>
    rfl
   | false =>
    cases z0 with
    | true =>
     rfl
    | false =>
     rfl
  )
theorem cnew_ok : FunOk Try.prog 7 (FunT.run C_new) := by
  refine fun_ok (E := envOf tab [] [] [] []) (fz := false) (fn := Try.f7) (envOf_ok progOk (.nil _)) (by kernel_rfl) (by kernel_rfl) (loops_none (by kernel_rfl)) ?_
  intro args σ r h
  unfold C_new at h
  split at h
  · exact (new_case0 _).trans h
  · simp [T.run_fail] at h
def C_bw : FunT := fun args σ => match args, σ with
  | [AV.dat (D.slc (Sh.agg [Sh.one, Sh.arr Sh.one 128]) ws)], [] => .leaf ([AV.fn (Fn.func 37) [] [AV.ptr Sh.one 0 0 []]], [{ sh := Sh.one, dyn := false, frz := false, v := AV.dat (D.slc (s67) ws) }])
  | _, _ => .fail
theorem bw_raw0 (ws : List D) : runF (envOf tab [] [] [] []) false Try.f36 [.dat (.slc s67 ws)] [] =some ([AV.fn (Fn.func 37) [] [AV.ptr Sh.one 0 0 []]], [{ sh := Sh.one, dyn := false, frz := false, v := .dat (.slc (s67) ws) }]) := by kernel_rfl
theorem bw_case0 (ws : List D) : runF (envOf tab [] [] [] []) false Try.f36 [.dat (.slc s67 ws)] [] = FunT.run C_bw [.dat (.slc s67 ws)] [] := (bw_raw0 ws).trans (by
  show _ = (some (([AV.fn (Fn.func 37) [] [AV.ptr Sh.one 0 0 []]], [{ sh := Sh.one, dyn := false, frz := false, v := .dat (.slc (s67) ws) }]) : Res))
  rfl
  )
theorem cbw_ok : FunOk Try.prog 36 (FunT.run C_bw) := by
  refine fun_ok (E := envOf tab [] [] [] []) (fz := false) (fn := Try.f36) (envOf_ok progOk (.nil _)) (by kernel_rfl) (by kernel_rfl) (loops_none (by kernel_rfl)) ?_
  intro args σ r h
  unfold C_bw at h
  split at h
  · exact (bw_case0 _).trans h
  · simp [T.run_fail] at h
def clip_pre (ws : List D) : Bool := decide ((↑(List.length ws) : Int) = (↑(List.length ws) : Int)) && decide (Int.toNat (↑(List.length ws) : Int) ≤ List.length ws)
def C_clip : FunT := fun args σ => match args, σ with
  | [AV.dat (D.slc (Sh.agg [Sh.one, Sh.arr Sh.one 128]) ws)], [] => .chk ((clip_pre ws)) (.leaf ([AV.fslc (s67) (seg ws 0 (Int.toNat (↑(List.length ws) : Int) - 0))], []))
  | _, _ => .fail
theorem clip_raw0 (ws : List D) : runF (envOf tab [] [] [] []) false Try.f29 [.dat (.slc s67 ws)] [] =
  (bif decide ((↑(List.length ws) : Int) = (↑(List.length ws) : Int)) then
   (bif decide (Int.toNat (↑(List.length ws) : Int) ≤ List.length ws) then some ([AV.fslc (s67) (seg ws 0 (Int.toNat (↑(List.length ws) : Int) - 0))], []) else none) else none) := by kernel_rfl
theorem clip_case0 (ws : List D) : runF (envOf tab [] [] [] []) false Try.f29 [.dat (.slc s67 ws)] [] = FunT.run C_clip [.dat (.slc s67 ws)] [] := (clip_raw0 ws).trans (by
  show _ = (cond (decide ((↑(List.length ws) : Int) = (↑(List.length ws) : Int)) && decide (Int.toNat (↑(List.length ws) : Int) ≤ List.length ws)) (some (([AV.fslc (s67) (seg ws 0 (Int.toNat (↑(List.length ws) : Int) - 0))], []) : Res)) none)
  generalize (decide ((↑(List.length ws) : Int) = (↑(List.length ws) : Int))) = z0
  generalize (decide (Int.toNat (↑(List.length ws) : Int) ≤ List.length ws)) = z1
  cases z0 with
  | true =>
   cases z1 with
   | true =>
    rfl
   | false =>
    rfl
  | false =>
   rfl
  )
theorem cclip_ok : FunOk Try.prog 29 (FunT.run C_clip) := by
  refine fun_ok (E := envOf tab [] [] [] []) (fz := false) (fn := Try.f29) (envOf_ok progOk (.nil _)) (by kernel_rfl) (by kernel_rfl) (loops_none (by kernel_rfl)) ?_
  intro args σ r h
  unfold C_clip at h
  split at h
  · exact (clip_case0 _).trans h
  · simp [T.run_fail] at h
end Go.Proofs.Ythhipekbkodjoaa
