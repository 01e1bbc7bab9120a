/- Seat 20: an entry's fields, as functions. -/
import Derived.Test.YtdmmobjegfhneaaI
namespace Go.Proofs.Ytdmmobjegfhneaa
open Go.AX
set_option maxRecDepth 100000
abbrev eP : AV := .ptr (.agg [.one, .one, .one, .one, .one, .one, .one, .one, .one, .one]) 0 0 []
abbrev eB (r li la wh si ba qu qt pr sl : Int) : Blk := ⟨.agg [.one, .one, .one, .one, .one, .one, .one, .one, .one, .one], false, false, .dat (entD r li la wh si ba qu qt pr sl)⟩
def C_large : FunT := fun args σ => match args, σ with
  | [AV.dat (D.fn (Fn.func g) [] [])], [] => .leaf ([AV.dat (D.agg [D.int IntKind.i64 8, D.fn (Fn.func 62) [] [D.vptr Sh.one (D.fn (Fn.func g) [] [])], D.fn (Fn.func 63) [] [D.vptr Sh.one (D.fn (Fn.func g) [] [])]])], [])
  | _, _ => .fail
theorem large_raw0 (g : Nat) : runF (envOf tab [] [] [] [(1, 0, [.vp 1])]) true Try.f41 [.dat (.fn (.func g) [] [])] [] =some ([.dat (.agg [D.int .i64 8, D.fn (Fn.func 62) [] [D.vptr Sh.one (D.fn (Fn.func g) [] [])], D.fn (Fn.func 63) [] [D.vptr Sh.one (D.fn (Fn.func g) [] [])]])], []) := by kernel_rfl
theorem large_case0 (g : Nat) : runF (envOf tab [] [] [] [(1, 0, [.vp 1])]) true Try.f41 [.dat (.fn (.func g) [] [])] [] = FunT.run C_large [.dat (.fn (.func g) [] [])] [] := (large_raw0 g).trans (by
  show _ = (some (([.dat (.agg [D.int .i64 8, D.fn (Fn.func 62) [] [D.vptr Sh.one (D.fn (Fn.func g) [] [])], D.fn (Fn.func 63) [] [D.vptr Sh.one (D.fn (Fn.func g) [] [])]])], []) : Res))
  rfl
  )
theorem clarge_ok : FunOk Try.prog 41 (FunT.run C_large) := by
  refine fun_ok (E := envOf tab [] [] [] [(1, 0, [.vp 1])]) (fz := true) (fn := Try.f41) (envOf_ok progOk (.nil _)) (by kernel_rfl) (by kernel_rfl) (loops_none (by kernel_rfl)) ?_
  intro args σ r h
  unfold C_large at h
  split at h
  · exact (large_case0 _).trans h
  · simp [T.run_fail] at h
def C_small : FunT := fun args σ => match args, σ with
  | [AV.dat (D.fn (Fn.func g) [] [])], [] => .leaf ([AV.dat (D.agg [D.int IntKind.i64 1, D.fn (Fn.func 64) [] [D.vptr Sh.one (D.fn (Fn.func g) [] [])], D.fn (Fn.func 65) [] [D.vptr Sh.one (D.fn (Fn.func g) [] [])]])], [])
  | _, _ => .fail
theorem small_raw0 (g : Nat) : runF (envOf tab [] [] [] [(1, 0, [.vp 1])]) true Try.f43 [.dat (.fn (.func g) [] [])] [] =some ([.dat (.agg [D.int .i64 1, D.fn (Fn.func 64) [] [D.vptr Sh.one (D.fn (Fn.func g) [] [])], D.fn (Fn.func 65) [] [D.vptr Sh.one (D.fn (Fn.func g) [] [])]])], []) := by kernel_rfl
theorem small_case0 (g : Nat) : runF (envOf tab [] [] [] [(1, 0, [.vp 1])]) true Try.f43 [.dat (.fn (.func g) [] [])] [] = FunT.run C_small [.dat (.fn (.func g) [] [])] [] := (small_raw0 g).trans (by
  show _ = (some (([.dat (.agg [D.int .i64 1, D.fn (Fn.func 64) [] [D.vptr Sh.one (D.fn (Fn.func g) [] [])], D.fn (Fn.func 65) [] [D.vptr Sh.one (D.fn (Fn.func g) [] [])]])], []) : Res))
  rfl
  )
theorem csmall_ok : FunOk Try.prog 43 (FunT.run C_small) := by
  refine fun_ok (E := envOf tab [] [] [] [(1, 0, [.vp 1])]) (fz := true) (fn := Try.f43) (envOf_ok progOk (.nil _)) (by kernel_rfl) (by kernel_rfl) (loops_none (by kernel_rfl)) ?_
  intro args σ r h
  unfold C_small at h
  split at h
  · exact (small_case0 _).trans h
  · simp [T.run_fail] at h
abbrev SpJ0 : Specs := [(41, C_large), (43, C_small)]
theorem SpJ0_ok : SpecsOk Try.prog SpJ0 := .cons clarge_ok (.cons csmall_ok (.nil _))
def C_fields : FunT := fun args σ => match args, σ with
  | [], [] => .leaf ([AV.dat (D.slc (s52) [D.agg [D.int IntKind.i64 8, D.fn (Fn.func 62) [] [D.vptr Sh.one (D.fn (Fn.func 42) [] [])], D.fn (Fn.func 63) [] [D.vptr Sh.one (D.fn (Fn.func 42) [] [])]], D.agg [D.int IntKind.i64 1, D.fn (Fn.func 64) [] [D.vptr Sh.one (D.fn (Fn.func 44) [] [])], D.fn (Fn.func 65) [] [D.vptr Sh.one (D.fn (Fn.func 44) [] [])]], D.agg [D.int IntKind.i64 1, D.fn (Fn.func 64) [] [D.vptr Sh.one (D.fn (Fn.func 45) [] [])], D.fn (Fn.func 65) [] [D.vptr Sh.one (D.fn (Fn.func 45) [] [])]], D.agg [D.int IntKind.i64 1, D.fn (Fn.func 64) [] [D.vptr Sh.one (D.fn (Fn.func 46) [] [])], D.fn (Fn.func 65) [] [D.vptr Sh.one (D.fn (Fn.func 46) [] [])]], D.agg [D.int IntKind.i64 1, D.fn (Fn.func 64) [] [D.vptr Sh.one (D.fn (Fn.func 47) [] [])], D.fn (Fn.func 65) [] [D.vptr Sh.one (D.fn (Fn.func 47) [] [])]], D.agg [D.int IntKind.i64 1, D.fn (Fn.func 64) [] [D.vptr Sh.one (D.fn (Fn.func 48) [] [])], D.fn (Fn.func 65) [] [D.vptr Sh.one (D.fn (Fn.func 48) [] [])]], D.agg [D.int IntKind.i64 1, D.fn (Fn.func 64) [] [D.vptr Sh.one (D.fn (Fn.func 49) [] [])], D.fn (Fn.func 65) [] [D.vptr Sh.one (D.fn (Fn.func 49) [] [])]], D.agg [D.int IntKind.i64 8, D.fn (Fn.func 62) [] [D.vptr Sh.one (D.fn (Fn.func 50) [] [])], D.fn (Fn.func 63) [] [D.vptr Sh.one (D.fn (Fn.func 50) [] [])]], D.agg [D.int IntKind.i64 8, D.fn (Fn.func 62) [] [D.vptr Sh.one (D.fn (Fn.func 51) [] [])], D.fn (Fn.func 63) [] [D.vptr Sh.one (D.fn (Fn.func 51) [] [])]], D.agg [D.int IntKind.i64 1, D.fn (Fn.func 64) [] [D.vptr Sh.one (D.fn (Fn.func 52) [] [])], D.fn (Fn.func 65) [] [D.vptr Sh.one (D.fn (Fn.func 52) [] [])]]])], [])
  | _, _ => .fail
theorem fields_raw0  : runF (envOf tab SpJ0 [] [] []) true Try.f28 [] [] =some ([.dat (.slc (s52) [D.agg [D.int .i64 8, D.fn (Fn.func 62) [] [D.vptr Sh.one (D.fn (Fn.func 42) [] [])], D.fn (Fn.func 63) [] [D.vptr Sh.one (D.fn (Fn.func 42) [] [])]], D.agg [D.int .i64 1, D.fn (Fn.func 64) [] [D.vptr Sh.one (D.fn (Fn.func 44) [] [])], D.fn (Fn.func 65) [] [D.vptr Sh.one (D.fn (Fn.func 44) [] [])]], D.agg [D.int .i64 1, D.fn (Fn.func 64) [] [D.vptr Sh.one (D.fn (Fn.func 45) [] [])], D.fn (Fn.func 65) [] [D.vptr Sh.one (D.fn (Fn.func 45) [] [])]], D.agg [D.int .i64 1, D.fn (Fn.func 64) [] [D.vptr Sh.one (D.fn (Fn.func 46) [] [])], D.fn (Fn.func 65) [] [D.vptr Sh.one (D.fn (Fn.func 46) [] [])]], D.agg [D.int .i64 1, D.fn (Fn.func 64) [] [D.vptr Sh.one (D.fn (Fn.func 47) [] [])], D.fn (Fn.func 65) [] [D.vptr Sh.one (D.fn (Fn.func 47) [] [])]], D.agg [D.int .i64 1, D.fn (Fn.func 64) [] [D.vptr Sh.one (D.fn (Fn.func 48) [] [])], D.fn (Fn.func 65) [] [D.vptr Sh.one (D.fn (Fn.func 48) [] [])]], D.agg [D.int .i64 1, D.fn (Fn.func 64) [] [D.vptr Sh.one (D.fn (Fn.func 49) [] [])], D.fn (Fn.func 65) [] [D.vptr Sh.one (D.fn (Fn.func 49) [] [])]], D.agg [D.int .i64 8, D.fn (Fn.func 62) [] [D.vptr Sh.one (D.fn (Fn.func 50) [] [])], D.fn (Fn.func 63) [] [D.vptr Sh.one (D.fn (Fn.func 50) [] [])]], D.agg [D.int .i64 8, D.fn (Fn.func 62) [] [D.vptr Sh.one (D.fn (Fn.func 51) [] [])], D.fn (Fn.func 63) [] [D.vptr Sh.one (D.fn (Fn.func 51) [] [])]], D.agg [D.int .i64 1, D.fn (Fn.func 64) [] [D.vptr Sh.one (D.fn (Fn.func 52) [] [])], D.fn (Fn.func 65) [] [D.vptr Sh.one (D.fn (Fn.func 52) [] [])]]])], []) := by kernel_rfl
theorem fields_case0  : runF (envOf tab SpJ0 [] [] []) true Try.f28 [] [] = FunT.run C_fields [] [] := (fields_raw0).trans (by
  show _ = (some (([.dat (.slc (s52) [D.agg [D.int .i64 8, D.fn (Fn.func 62) [] [D.vptr Sh.one (D.fn (Fn.func 42) [] [])], D.fn (Fn.func 63) [] [D.vptr Sh.one (D.fn (Fn.func 42) [] [])]], D.agg [D.int .i64 1, D.fn (Fn.func 64) [] [D.vptr Sh.one (D.fn (Fn.func 44) [] [])], D.fn (Fn.func 65) [] [D.vptr Sh.one (D.fn (Fn.func 44) [] [])]], D.agg [D.int .i64 1, D.fn (Fn.func 64) [] [D.vptr Sh.one (D.fn (Fn.func 45) [] [])], D.fn (Fn.func 65) [] [D.vptr Sh.one (D.fn (Fn.func 45) [] [])]], D.agg [D.int .i64 1, D.fn (Fn.func 64) [] [D.vptr Sh.one (D.fn (Fn.func 46) [] [])], D.fn (Fn.func 65) [] [D.vptr Sh.one (D.fn (Fn.func 46) [] [])]], D.agg [D.int .i64 1, D.fn (Fn.func 64) [] [D.vptr Sh.one (D.fn (Fn.func 47) [] [])], D.fn (Fn.func 65) [] [D.vptr Sh.one (D.fn (Fn.func 47) [] [])]], D.agg [D.int .i64 1, D.fn (Fn.func 64) [] [D.vptr Sh.one (D.fn (Fn.func 48) [] [])], D.fn (Fn.func 65) [] [D.vptr Sh.one (D.fn (Fn.func 48) [] [])]], D.agg [D.int .i64 1, D.fn (Fn.func 64) [] [D.vptr Sh.one (D.fn (Fn.func 49) [] [])], D.fn (Fn.func 65) [] [D.vptr Sh.one (D.fn (Fn.func 49) [] [])]], D.agg [D.int .i64 8, D.fn (Fn.func 62) [] [D.vptr Sh.one (D.fn (Fn.func 50) [] [])], D.fn (Fn.func 63) [] [D.vptr Sh.one (D.fn (Fn.func 50) [] [])]], D.agg [D.int .i64 8, D.fn (Fn.func 62) [] [D.vptr Sh.one (D.fn (Fn.func 51) [] [])], D.fn (Fn.func 63) [] [D.vptr Sh.one (D.fn (Fn.func 51) [] [])]], D.agg [D.int .i64 1, D.fn (Fn.func 64) [] [D.vptr Sh.one (D.fn (Fn.func 52) [] [])], D.fn (Fn.func 65) [] [D.vptr Sh.one (D.fn (Fn.func 52) [] [])]]])], []) : Res))
  rfl
  )
theorem cfields_ok : FunOk Try.prog 28 (FunT.run C_fields) := by
  refine fun_ok (E := envOf tab SpJ0 [] [] []) (fz := true) (fn := Try.f28) (envOf_ok progOk SpJ0_ok) (by kernel_rfl) (by kernel_rfl) (loops_none (by kernel_rfl)) ?_
  intro args σ r h
  unfold C_fields at h
  split at h
  · exact (fields_case0).trans h
  · simp [T.run_fail] at h
def C_at0 : FunT := fun args σ => match args, σ with
  | [AV.ptr (Sh.agg [Sh.one, Sh.one, Sh.one, Sh.one, Sh.one, Sh.one, Sh.one, Sh.one, Sh.one, Sh.one]) 0 0 []], [{ sh := Sh.agg [Sh.one, Sh.one, Sh.one, Sh.one, Sh.one, Sh.one, Sh.one, Sh.one, Sh.one, Sh.one], dyn := false, frz := false, v := AV.dat (D.agg [D.int IntKind.u64 r, D.int IntKind.i64 li, D.int IntKind.i64 la, D.int IntKind.i64 wh, D.int IntKind.i64 si, D.int IntKind.i64 ba, D.int IntKind.i64 qu, D.int IntKind.u64 qt, D.int IntKind.u64 pr, D.int IntKind.i64 sl]) }] => .leaf ([AV.ptr Sh.one 0 0 [0]], [{ sh := s25, dyn := false, frz := false, v := AV.dat (D.agg [D.int IntKind.u64 r, D.int IntKind.i64 li, D.int IntKind.i64 la, D.int IntKind.i64 wh, D.int IntKind.i64 si, D.int IntKind.i64 ba, D.int IntKind.i64 qu, D.int IntKind.u64 qt, D.int IntKind.u64 pr, D.int IntKind.i64 sl]) }])
  | _, _ => .fail
theorem at0_raw0 (r li la wh si ba qu qt pr sl : Int) : runF (envOf tab [] [] [] []) false Try.f42 [eP] [eB r li la wh si ba qu qt pr sl] =some ([AV.ptr Sh.one 0 0 [0]], [{ sh := s25, dyn := false, frz := false, v := .dat (.agg [D.int IntKind.u64 r, D.int .i64 li, D.int .i64 la, D.int .i64 wh, D.int .i64 si, D.int .i64 ba, D.int .i64 qu, D.int IntKind.u64 qt, D.int IntKind.u64 pr, D.int .i64 sl]) }]) := by kernel_rfl
theorem at0_case0 (r li la wh si ba qu qt pr sl : Int) : runF (envOf tab [] [] [] []) false Try.f42 [eP] [eB r li la wh si ba qu qt pr sl] = FunT.run C_at0 [eP] [eB r li la wh si ba qu qt pr sl] := (at0_raw0 r li la wh si ba qu qt pr sl).trans (by
  show _ = (some (([AV.ptr Sh.one 0 0 [0]], [{ sh := s25, dyn := false, frz := false, v := .dat (.agg [D.int IntKind.u64 r, D.int .i64 li, D.int .i64 la, D.int .i64 wh, D.int .i64 si, D.int .i64 ba, D.int .i64 qu, D.int IntKind.u64 qt, D.int IntKind.u64 pr, D.int .i64 sl]) }]) : Res))
  rfl
  )
theorem cat0_ok : FunOk Try.prog 42 (FunT.run C_at0) := by
  refine fun_ok (E := envOf tab [] [] [] []) (fz := false) (fn := Try.f42) (envOf_ok progOk (.nil _)) (by kernel_rfl) (by kernel_rfl) (loops_none (by kernel_rfl)) ?_
  intro args σ r h
  unfold C_at0 at h
  split at h
  · exact (at0_case0 _ _ _ _ _ _ _ _ _ _).trans h
  · simp [T.run_fail] at h
def C_at1 : FunT := fun args σ => match args, σ with
  | [AV.ptr (Sh.agg [Sh.one, Sh.one, Sh.one, Sh.one, Sh.one, Sh.one, Sh.one, Sh.one, Sh.one, Sh.one]) 0 0 []], [{ sh := Sh.agg [Sh.one, Sh.one, Sh.one, Sh.one, Sh.one, Sh.one, Sh.one, Sh.one, Sh.one, Sh.one], dyn := false, frz := false, v := AV.dat (D.agg [D.int IntKind.u64 r, D.int IntKind.i64 li, D.int IntKind.i64 la, D.int IntKind.i64 wh, D.int IntKind.i64 si, D.int IntKind.i64 ba, D.int IntKind.i64 qu, D.int IntKind.u64 qt, D.int IntKind.u64 pr, D.int IntKind.i64 sl]) }] => .leaf ([AV.ptr Sh.one 0 0 [1]], [{ sh := s25, dyn := false, frz := false, v := AV.dat (D.agg [D.int IntKind.u64 r, D.int IntKind.i64 li, D.int IntKind.i64 la, D.int IntKind.i64 wh, D.int IntKind.i64 si, D.int IntKind.i64 ba, D.int IntKind.i64 qu, D.int IntKind.u64 qt, D.int IntKind.u64 pr, D.int IntKind.i64 sl]) }])
  | _, _ => .fail
theorem at1_raw0 (r li la wh si ba qu qt pr sl : Int) : runF (envOf tab [] [] [] []) false Try.f44 [eP] [eB r li la wh si ba qu qt pr sl] =some ([AV.ptr Sh.one 0 0 [1]], [{ sh := s25, dyn := false, frz := false, v := .dat (.agg [D.int IntKind.u64 r, D.int .i64 li, D.int .i64 la, D.int .i64 wh, D.int .i64 si, D.int .i64 ba, D.int .i64 qu, D.int IntKind.u64 qt, D.int IntKind.u64 pr, D.int .i64 sl]) }]) := by kernel_rfl
theorem at1_case0 (r li la wh si ba qu qt pr sl : Int) : runF (envOf tab [] [] [] []) false Try.f44 [eP] [eB r li la wh si ba qu qt pr sl] = FunT.run C_at1 [eP] [eB r li la wh si ba qu qt pr sl] := (at1_raw0 r li la wh si ba qu qt pr sl).trans (by
  show _ = (some (([AV.ptr Sh.one 0 0 [1]], [{ sh := s25, dyn := false, frz := false, v := .dat (.agg [D.int IntKind.u64 r, D.int .i64 li, D.int .i64 la, D.int .i64 wh, D.int .i64 si, D.int .i64 ba, D.int .i64 qu, D.int IntKind.u64 qt, D.int IntKind.u64 pr, D.int .i64 sl]) }]) : Res))
  rfl
  )
theorem cat1_ok : FunOk Try.prog 44 (FunT.run C_at1) := by
  refine fun_ok (E := envOf tab [] [] [] []) (fz := false) (fn := Try.f44) (envOf_ok progOk (.nil _)) (by kernel_rfl) (by kernel_rfl) (loops_none (by kernel_rfl)) ?_
  intro args σ r h
  unfold C_at1 at h
  split at h
  · exact (at1_case0 _ _ _ _ _ _ _ _ _ _).trans h
  · simp [T.run_fail] at h
def C_at2 : FunT := fun args σ => match args, σ with
  | [AV.ptr (Sh.agg [Sh.one, Sh.one, Sh.one, Sh.one, Sh.one, Sh.one, Sh.one, Sh.one, Sh.one, Sh.one]) 0 0 []], [{ sh := Sh.agg [Sh.one, Sh.one, Sh.one, Sh.one, Sh.one, Sh.one, Sh.one, Sh.one, Sh.one, Sh.one], dyn := false, frz := false, v := AV.dat (D.agg [D.int IntKind.u64 r, D.int IntKind.i64 li, D.int IntKind.i64 la, D.int IntKind.i64 wh, D.int IntKind.i64 si, D.int IntKind.i64 ba, D.int IntKind.i64 qu, D.int IntKind.u64 qt, D.int IntKind.u64 pr, D.int IntKind.i64 sl]) }] => .leaf ([AV.ptr Sh.one 0 0 [2]], [{ sh := s25, dyn := false, frz := false, v := AV.dat (D.agg [D.int IntKind.u64 r, D.int IntKind.i64 li, D.int IntKind.i64 la, D.int IntKind.i64 wh, D.int IntKind.i64 si, D.int IntKind.i64 ba, D.int IntKind.i64 qu, D.int IntKind.u64 qt, D.int IntKind.u64 pr, D.int IntKind.i64 sl]) }])
  | _, _ => .fail
theorem at2_raw0 (r li la wh si ba qu qt pr sl : Int) : runF (envOf tab [] [] [] []) false Try.f45 [eP] [eB r li la wh si ba qu qt pr sl] =some ([AV.ptr Sh.one 0 0 [2]], [{ sh := s25, dyn := false, frz := false, v := .dat (.agg [D.int IntKind.u64 r, D.int .i64 li, D.int .i64 la, D.int .i64 wh, D.int .i64 si, D.int .i64 ba, D.int .i64 qu, D.int IntKind.u64 qt, D.int IntKind.u64 pr, D.int .i64 sl]) }]) := by kernel_rfl
theorem at2_case0 (r li la wh si ba qu qt pr sl : Int) : runF (envOf tab [] [] [] []) false Try.f45 [eP] [eB r li la wh si ba qu qt pr sl] = FunT.run C_at2 [eP] [eB r li la wh si ba qu qt pr sl] := (at2_raw0 r li la wh si ba qu qt pr sl).trans (by
  show _ = (some (([AV.ptr Sh.one 0 0 [2]], [{ sh := s25, dyn := false, frz := false, v := .dat (.agg [D.int IntKind.u64 r, D.int .i64 li, D.int .i64 la, D.int .i64 wh, D.int .i64 si, D.int .i64 ba, D.int .i64 qu, D.int IntKind.u64 qt, D.int IntKind.u64 pr, D.int .i64 sl]) }]) : Res))
  rfl
  )
theorem cat2_ok : FunOk Try.prog 45 (FunT.run C_at2) := by
  refine fun_ok (E := envOf tab [] [] [] []) (fz := false) (fn := Try.f45) (envOf_ok progOk (.nil _)) (by kernel_rfl) (by kernel_rfl) (loops_none (by kernel_rfl)) ?_
  intro args σ r h
  unfold C_at2 at h
  split at h
  · exact (at2_case0 _ _ _ _ _ _ _ _ _ _).trans h
  · simp [T.run_fail] at h
def C_at3 : FunT := fun args σ => match args, σ with
  | [AV.ptr (Sh.agg [Sh.one, Sh.one, Sh.one, Sh.one, Sh.one, Sh.one, Sh.one, Sh.one, Sh.one, Sh.one]) 0 0 []], [{ sh := Sh.agg [Sh.one, Sh.one, Sh.one, Sh.one, Sh.one, Sh.one, Sh.one, Sh.one, Sh.one, Sh.one], dyn := false, frz := false, v := AV.dat (D.agg [D.int IntKind.u64 r, D.int IntKind.i64 li, D.int IntKind.i64 la, D.int IntKind.i64 wh, D.int IntKind.i64 si, D.int IntKind.i64 ba, D.int IntKind.i64 qu, D.int IntKind.u64 qt, D.int IntKind.u64 pr, D.int IntKind.i64 sl]) }] => .leaf ([AV.ptr Sh.one 0 0 [3]], [{ sh := s25, dyn := false, frz := false, v := AV.dat (D.agg [D.int IntKind.u64 r, D.int IntKind.i64 li, D.int IntKind.i64 la, D.int IntKind.i64 wh, D.int IntKind.i64 si, D.int IntKind.i64 ba, D.int IntKind.i64 qu, D.int IntKind.u64 qt, D.int IntKind.u64 pr, D.int IntKind.i64 sl]) }])
  | _, _ => .fail
theorem at3_raw0 (r li la wh si ba qu qt pr sl : Int) : runF (envOf tab [] [] [] []) false Try.f46 [eP] [eB r li la wh si ba qu qt pr sl] =some ([AV.ptr Sh.one 0 0 [3]], [{ sh := s25, dyn := false, frz := false, v := .dat (.agg [D.int IntKind.u64 r, D.int .i64 li, D.int .i64 la, D.int .i64 wh, D.int .i64 si, D.int .i64 ba, D.int .i64 qu, D.int IntKind.u64 qt, D.int IntKind.u64 pr, D.int .i64 sl]) }]) := by kernel_rfl
theorem at3_case0 (r li la wh si ba qu qt pr sl : Int) : runF (envOf tab [] [] [] []) false Try.f46 [eP] [eB r li la wh si ba qu qt pr sl] = FunT.run C_at3 [eP] [eB r li la wh si ba qu qt pr sl] := (at3_raw0 r li la wh si ba qu qt pr sl).trans (by
  show _ = (some (([AV.ptr Sh.one 0 0 [3]], [{ sh := s25, dyn := false, frz := false, v := .dat (.agg [D.int IntKind.u64 r, D.int .i64 li, D.int .i64 la, D.int .i64 wh, D.int .i64 si, D.int .i64 ba, D.int .i64 qu, D.int IntKind.u64 qt, D.int IntKind.u64 pr, D.int .i64 sl]) }]) : Res))
  rfl
  )
theorem cat3_ok : FunOk Try.prog 46 (FunT.run C_at3) := by
  refine fun_ok (E := envOf tab [] [] [] []) (fz := false) (fn := Try.f46) (envOf_ok progOk (.nil _)) (by kernel_rfl) (by kernel_rfl) (loops_none (by kernel_rfl)) ?_
  intro args σ r h
  unfold C_at3 at h
  split at h
  · exact (at3_case0 _ _ _ _ _ _ _ _ _ _).trans h
  · simp [T.run_fail] at h
def C_at4 : FunT := fun args σ => match args, σ with
  | [AV.ptr (Sh.agg [Sh.one, Sh.one, Sh.one, Sh.one, Sh.one, Sh.one, Sh.one, Sh.one, Sh.one, Sh.one]) 0 0 []], [{ sh := Sh.agg [Sh.one, Sh.one, Sh.one, Sh.one, Sh.one, Sh.one, Sh.one, Sh.one, Sh.one, Sh.one], dyn := false, frz := false, v := AV.dat (D.agg [D.int IntKind.u64 r, D.int IntKind.i64 li, D.int IntKind.i64 la, D.int IntKind.i64 wh, D.int IntKind.i64 si, D.int IntKind.i64 ba, D.int IntKind.i64 qu, D.int IntKind.u64 qt, D.int IntKind.u64 pr, D.int IntKind.i64 sl]) }] => .leaf ([AV.ptr Sh.one 0 0 [4]], [{ sh := s25, dyn := false, frz := false, v := AV.dat (D.agg [D.int IntKind.u64 r, D.int IntKind.i64 li, D.int IntKind.i64 la, D.int IntKind.i64 wh, D.int IntKind.i64 si, D.int IntKind.i64 ba, D.int IntKind.i64 qu, D.int IntKind.u64 qt, D.int IntKind.u64 pr, D.int IntKind.i64 sl]) }])
  | _, _ => .fail
theorem at4_raw0 (r li la wh si ba qu qt pr sl : Int) : runF (envOf tab [] [] [] []) false Try.f47 [eP] [eB r li la wh si ba qu qt pr sl] =some ([AV.ptr Sh.one 0 0 [4]], [{ sh := s25, dyn := false, frz := false, v := .dat (.agg [D.int IntKind.u64 r, D.int .i64 li, D.int .i64 la, D.int .i64 wh, D.int .i64 si, D.int .i64 ba, D.int .i64 qu, D.int IntKind.u64 qt, D.int IntKind.u64 pr, D.int .i64 sl]) }]) := by kernel_rfl
theorem at4_case0 (r li la wh si ba qu qt pr sl : Int) : runF (envOf tab [] [] [] []) false Try.f47 [eP] [eB r li la wh si ba qu qt pr sl] = FunT.run C_at4 [eP] [eB r li la wh si ba qu qt pr sl] := (at4_raw0 r li la wh si ba qu qt pr sl).trans (by
  show _ = (some (([AV.ptr Sh.one 0 0 [4]], [{ sh := s25, dyn := false, frz := false, v := .dat (.agg [D.int IntKind.u64 r, D.int .i64 li, D.int .i64 la, D.int .i64 wh, D.int .i64 si, D.int .i64 ba, D.int .i64 qu, D.int IntKind.u64 qt, D.int IntKind.u64 pr, D.int .i64 sl]) }]) : Res))
  rfl
  )
theorem cat4_ok : FunOk Try.prog 47 (FunT.run C_at4) := by
  refine fun_ok (E := envOf tab [] [] [] []) (fz := false) (fn := Try.f47) (envOf_ok progOk (.nil _)) (by kernel_rfl) (by kernel_rfl) (loops_none (by kernel_rfl)) ?_
  intro args σ r h
  unfold C_at4 at h
  split at h
  · exact (at4_case0 _ _ _ _ _ _ _ _ _ _).trans h
  · simp [T.run_fail] at h
def C_at5 : FunT := fun args σ => match args, σ with
  | [AV.ptr (Sh.agg [Sh.one, Sh.one, Sh.one, Sh.one, Sh.one, Sh.one, Sh.one, Sh.one, Sh.one, Sh.one]) 0 0 []], [{ sh := Sh.agg [Sh.one, Sh.one, Sh.one, Sh.one, Sh.one, Sh.one, Sh.one, Sh.one, Sh.one, Sh.one], dyn := false, frz := false, v := AV.dat (D.agg [D.int IntKind.u64 r, D.int IntKind.i64 li, D.int IntKind.i64 la, D.int IntKind.i64 wh, D.int IntKind.i64 si, D.int IntKind.i64 ba, D.int IntKind.i64 qu, D.int IntKind.u64 qt, D.int IntKind.u64 pr, D.int IntKind.i64 sl]) }] => .leaf ([AV.ptr Sh.one 0 0 [5]], [{ sh := s25, dyn := false, frz := false, v := AV.dat (D.agg [D.int IntKind.u64 r, D.int IntKind.i64 li, D.int IntKind.i64 la, D.int IntKind.i64 wh, D.int IntKind.i64 si, D.int IntKind.i64 ba, D.int IntKind.i64 qu, D.int IntKind.u64 qt, D.int IntKind.u64 pr, D.int IntKind.i64 sl]) }])
  | _, _ => .fail
theorem at5_raw0 (r li la wh si ba qu qt pr sl : Int) : runF (envOf tab [] [] [] []) false Try.f48 [eP] [eB r li la wh si ba qu qt pr sl] =some ([AV.ptr Sh.one 0 0 [5]], [{ sh := s25, dyn := false, frz := false, v := .dat (.agg [D.int IntKind.u64 r, D.int .i64 li, D.int .i64 la, D.int .i64 wh, D.int .i64 si, D.int .i64 ba, D.int .i64 qu, D.int IntKind.u64 qt, D.int IntKind.u64 pr, D.int .i64 sl]) }]) := by kernel_rfl
theorem at5_case0 (r li la wh si ba qu qt pr sl : Int) : runF (envOf tab [] [] [] []) false Try.f48 [eP] [eB r li la wh si ba qu qt pr sl] = FunT.run C_at5 [eP] [eB r li la wh si ba qu qt pr sl] := (at5_raw0 r li la wh si ba qu qt pr sl).trans (by
  show _ = (some (([AV.ptr Sh.one 0 0 [5]], [{ sh := s25, dyn := false, frz := false, v := .dat (.agg [D.int IntKind.u64 r, D.int .i64 li, D.int .i64 la, D.int .i64 wh, D.int .i64 si, D.int .i64 ba, D.int .i64 qu, D.int IntKind.u64 qt, D.int IntKind.u64 pr, D.int .i64 sl]) }]) : Res))
  rfl
  )
theorem cat5_ok : FunOk Try.prog 48 (FunT.run C_at5) := by
  refine fun_ok (E := envOf tab [] [] [] []) (fz := false) (fn := Try.f48) (envOf_ok progOk (.nil _)) (by kernel_rfl) (by kernel_rfl) (loops_none (by kernel_rfl)) ?_
  intro args σ r h
  unfold C_at5 at h
  split at h
  · exact (at5_case0 _ _ _ _ _ _ _ _ _ _).trans h
  · simp [T.run_fail] at h
def C_at6 : FunT := fun args σ => match args, σ with
  | [AV.ptr (Sh.agg [Sh.one, Sh.one, Sh.one, Sh.one, Sh.one, Sh.one, Sh.one, Sh.one, Sh.one, Sh.one]) 0 0 []], [{ sh := Sh.agg [Sh.one, Sh.one, Sh.one, Sh.one, Sh.one, Sh.one, Sh.one, Sh.one, Sh.one, Sh.one], dyn := false, frz := false, v := AV.dat (D.agg [D.int IntKind.u64 r, D.int IntKind.i64 li, D.int IntKind.i64 la, D.int IntKind.i64 wh, D.int IntKind.i64 si, D.int IntKind.i64 ba, D.int IntKind.i64 qu, D.int IntKind.u64 qt, D.int IntKind.u64 pr, D.int IntKind.i64 sl]) }] => .leaf ([AV.ptr Sh.one 0 0 [6]], [{ sh := s25, dyn := false, frz := false, v := AV.dat (D.agg [D.int IntKind.u64 r, D.int IntKind.i64 li, D.int IntKind.i64 la, D.int IntKind.i64 wh, D.int IntKind.i64 si, D.int IntKind.i64 ba, D.int IntKind.i64 qu, D.int IntKind.u64 qt, D.int IntKind.u64 pr, D.int IntKind.i64 sl]) }])
  | _, _ => .fail
theorem at6_raw0 (r li la wh si ba qu qt pr sl : Int) : runF (envOf tab [] [] [] []) false Try.f49 [eP] [eB r li la wh si ba qu qt pr sl] =some ([AV.ptr Sh.one 0 0 [6]], [{ sh := s25, dyn := false, frz := false, v := .dat (.agg [D.int IntKind.u64 r, D.int .i64 li, D.int .i64 la, D.int .i64 wh, D.int .i64 si, D.int .i64 ba, D.int .i64 qu, D.int IntKind.u64 qt, D.int IntKind.u64 pr, D.int .i64 sl]) }]) := by kernel_rfl
theorem at6_case0 (r li la wh si ba qu qt pr sl : Int) : runF (envOf tab [] [] [] []) false Try.f49 [eP] [eB r li la wh si ba qu qt pr sl] = FunT.run C_at6 [eP] [eB r li la wh si ba qu qt pr sl] := (at6_raw0 r li la wh si ba qu qt pr sl).trans (by
  show _ = (some (([AV.ptr Sh.one 0 0 [6]], [{ sh := s25, dyn := false, frz := false, v := .dat (.agg [D.int IntKind.u64 r, D.int .i64 li, D.int .i64 la, D.int .i64 wh, D.int .i64 si, D.int .i64 ba, D.int .i64 qu, D.int IntKind.u64 qt, D.int IntKind.u64 pr, D.int .i64 sl]) }]) : Res))
  rfl
  )
theorem cat6_ok : FunOk Try.prog 49 (FunT.run C_at6) := by
  refine fun_ok (E := envOf tab [] [] [] []) (fz := false) (fn := Try.f49) (envOf_ok progOk (.nil _)) (by kernel_rfl) (by kernel_rfl) (loops_none (by kernel_rfl)) ?_
  intro args σ r h
  unfold C_at6 at h
  split at h
  · exact (at6_case0 _ _ _ _ _ _ _ _ _ _).trans h
  · simp [T.run_fail] at h
def C_at7 : FunT := fun args σ => match args, σ with
  | [AV.ptr (Sh.agg [Sh.one, Sh.one, Sh.one, Sh.one, Sh.one, Sh.one, Sh.one, Sh.one, Sh.one, Sh.one]) 0 0 []], [{ sh := Sh.agg [Sh.one, Sh.one, Sh.one, Sh.one, Sh.one, Sh.one, Sh.one, Sh.one, Sh.one, Sh.one], dyn := false, frz := false, v := AV.dat (D.agg [D.int IntKind.u64 r, D.int IntKind.i64 li, D.int IntKind.i64 la, D.int IntKind.i64 wh, D.int IntKind.i64 si, D.int IntKind.i64 ba, D.int IntKind.i64 qu, D.int IntKind.u64 qt, D.int IntKind.u64 pr, D.int IntKind.i64 sl]) }] => .leaf ([AV.ptr Sh.one 0 0 [7]], [{ sh := s25, dyn := false, frz := false, v := AV.dat (D.agg [D.int IntKind.u64 r, D.int IntKind.i64 li, D.int IntKind.i64 la, D.int IntKind.i64 wh, D.int IntKind.i64 si, D.int IntKind.i64 ba, D.int IntKind.i64 qu, D.int IntKind.u64 qt, D.int IntKind.u64 pr, D.int IntKind.i64 sl]) }])
  | _, _ => .fail
theorem at7_raw0 (r li la wh si ba qu qt pr sl : Int) : runF (envOf tab [] [] [] []) false Try.f50 [eP] [eB r li la wh si ba qu qt pr sl] =some ([AV.ptr Sh.one 0 0 [7]], [{ sh := s25, dyn := false, frz := false, v := .dat (.agg [D.int IntKind.u64 r, D.int .i64 li, D.int .i64 la, D.int .i64 wh, D.int .i64 si, D.int .i64 ba, D.int .i64 qu, D.int IntKind.u64 qt, D.int IntKind.u64 pr, D.int .i64 sl]) }]) := by kernel_rfl
theorem at7_case0 (r li la wh si ba qu qt pr sl : Int) : runF (envOf tab [] [] [] []) false Try.f50 [eP] [eB r li la wh si ba qu qt pr sl] = FunT.run C_at7 [eP] [eB r li la wh si ba qu qt pr sl] := (at7_raw0 r li la wh si ba qu qt pr sl).trans (by
  show _ = (some (([AV.ptr Sh.one 0 0 [7]], [{ sh := s25, dyn := false, frz := false, v := .dat (.agg [D.int IntKind.u64 r, D.int .i64 li, D.int .i64 la, D.int .i64 wh, D.int .i64 si, D.int .i64 ba, D.int .i64 qu, D.int IntKind.u64 qt, D.int IntKind.u64 pr, D.int .i64 sl]) }]) : Res))
  rfl
  )
theorem cat7_ok : FunOk Try.prog 50 (FunT.run C_at7) := by
  refine fun_ok (E := envOf tab [] [] [] []) (fz := false) (fn := Try.f50) (envOf_ok progOk (.nil _)) (by kernel_rfl) (by kernel_rfl) (loops_none (by kernel_rfl)) ?_
  intro args σ r h
  unfold C_at7 at h
  split at h
  · exact (at7_case0 _ _ _ _ _ _ _ _ _ _).trans h
  · simp [T.run_fail] at h
def C_at8 : FunT := fun args σ => match args, σ with
  | [AV.ptr (Sh.agg [Sh.one, Sh.one, Sh.one, Sh.one, Sh.one, Sh.one, Sh.one, Sh.one, Sh.one, Sh.one]) 0 0 []], [{ sh := Sh.agg [Sh.one, Sh.one, Sh.one, Sh.one, Sh.one, Sh.one, Sh.one, Sh.one, Sh.one, Sh.one], dyn := false, frz := false, v := AV.dat (D.agg [D.int IntKind.u64 r, D.int IntKind.i64 li, D.int IntKind.i64 la, D.int IntKind.i64 wh, D.int IntKind.i64 si, D.int IntKind.i64 ba, D.int IntKind.i64 qu, D.int IntKind.u64 qt, D.int IntKind.u64 pr, D.int IntKind.i64 sl]) }] => .leaf ([AV.ptr Sh.one 0 0 [8]], [{ sh := s25, dyn := false, frz := false, v := AV.dat (D.agg [D.int IntKind.u64 r, D.int IntKind.i64 li, D.int IntKind.i64 la, D.int IntKind.i64 wh, D.int IntKind.i64 si, D.int IntKind.i64 ba, D.int IntKind.i64 qu, D.int IntKind.u64 qt, D.int IntKind.u64 pr, D.int IntKind.i64 sl]) }])
  | _, _ => .fail
theorem at8_raw0 (r li la wh si ba qu qt pr sl : Int) : runF (envOf tab [] [] [] []) false Try.f51 [eP] [eB r li la wh si ba qu qt pr sl] =some ([AV.ptr Sh.one 0 0 [8]], [{ sh := s25, dyn := false, frz := false, v := .dat (.agg [D.int IntKind.u64 r, D.int .i64 li, D.int .i64 la, D.int .i64 wh, D.int .i64 si, D.int .i64 ba, D.int .i64 qu, D.int IntKind.u64 qt, D.int IntKind.u64 pr, D.int .i64 sl]) }]) := by kernel_rfl
theorem at8_case0 (r li la wh si ba qu qt pr sl : Int) : runF (envOf tab [] [] [] []) false Try.f51 [eP] [eB r li la wh si ba qu qt pr sl] = FunT.run C_at8 [eP] [eB r li la wh si ba qu qt pr sl] := (at8_raw0 r li la wh si ba qu qt pr sl).trans (by
  show _ = (some (([AV.ptr Sh.one 0 0 [8]], [{ sh := s25, dyn := false, frz := false, v := .dat (.agg [D.int IntKind.u64 r, D.int .i64 li, D.int .i64 la, D.int .i64 wh, D.int .i64 si, D.int .i64 ba, D.int .i64 qu, D.int IntKind.u64 qt, D.int IntKind.u64 pr, D.int .i64 sl]) }]) : Res))
  rfl
  )
theorem cat8_ok : FunOk Try.prog 51 (FunT.run C_at8) := by
  refine fun_ok (E := envOf tab [] [] [] []) (fz := false) (fn := Try.f51) (envOf_ok progOk (.nil _)) (by kernel_rfl) (by kernel_rfl) (loops_none (by kernel_rfl)) ?_
  intro args σ r h
  unfold C_at8 at h
  split at h
  · exact (at8_case0 _ _ _ _ _ _ _ _ _ _).trans h
  · simp [T.run_fail] at h
def C_at9 : FunT := fun args σ => match args, σ with
  | [AV.ptr (Sh.agg [Sh.one, Sh.one, Sh.one, Sh.one, Sh.one, Sh.one, Sh.one, Sh.one, Sh.one, Sh.one]) 0 0 []], [{ sh := Sh.agg [Sh.one, Sh.one, Sh.one, Sh.one, Sh.one, Sh.one, Sh.one, Sh.one, Sh.one, Sh.one], dyn := false, frz := false, v := AV.dat (D.agg [D.int IntKind.u64 r, D.int IntKind.i64 li, D.int IntKind.i64 la, D.int IntKind.i64 wh, D.int IntKind.i64 si, D.int IntKind.i64 ba, D.int IntKind.i64 qu, D.int IntKind.u64 qt, D.int IntKind.u64 pr, D.int IntKind.i64 sl]) }] => .leaf ([AV.ptr Sh.one 0 0 [9]], [{ sh := s25, dyn := false, frz := false, v := AV.dat (D.agg [D.int IntKind.u64 r, D.int IntKind.i64 li, D.int IntKind.i64 la, D.int IntKind.i64 wh, D.int IntKind.i64 si, D.int IntKind.i64 ba, D.int IntKind.i64 qu, D.int IntKind.u64 qt, D.int IntKind.u64 pr, D.int IntKind.i64 sl]) }])
  | _, _ => .fail
theorem at9_raw0 (r li la wh si ba qu qt pr sl : Int) : runF (envOf tab [] [] [] []) false Try.f52 [eP] [eB r li la wh si ba qu qt pr sl] =some ([AV.ptr Sh.one 0 0 [9]], [{ sh := s25, dyn := false, frz := false, v := .dat (.agg [D.int IntKind.u64 r, D.int .i64 li, D.int .i64 la, D.int .i64 wh, D.int .i64 si, D.int .i64 ba, D.int .i64 qu, D.int IntKind.u64 qt, D.int IntKind.u64 pr, D.int .i64 sl]) }]) := by kernel_rfl
theorem at9_case0 (r li la wh si ba qu qt pr sl : Int) : runF (envOf tab [] [] [] []) false Try.f52 [eP] [eB r li la wh si ba qu qt pr sl] = FunT.run C_at9 [eP] [eB r li la wh si ba qu qt pr sl] := (at9_raw0 r li la wh si ba qu qt pr sl).trans (by
  show _ = (some (([AV.ptr Sh.one 0 0 [9]], [{ sh := s25, dyn := false, frz := false, v := .dat (.agg [D.int IntKind.u64 r, D.int .i64 li, D.int .i64 la, D.int .i64 wh, D.int .i64 si, D.int .i64 ba, D.int .i64 qu, D.int IntKind.u64 qt, D.int IntKind.u64 pr, D.int .i64 sl]) }]) : Res))
  rfl
  )
theorem cat9_ok : FunOk Try.prog 52 (FunT.run C_at9) := by
  refine fun_ok (E := envOf tab [] [] [] []) (fz := false) (fn := Try.f52) (envOf_ok progOk (.nil _)) (by kernel_rfl) (by kernel_rfl) (loops_none (by kernel_rfl)) ?_
  intro args σ r h
  unfold C_at9 at h
  split at h
  · exact (at9_case0 _ _ _ _ _ _ _ _ _ _).trans h
  · simp [T.run_fail] at h
abbrev SpJ1 : Specs := [(42, C_at0), (44, C_at1), (45, C_at2), (46, C_at3), (47, C_at4), (48, C_at5), (49, C_at6), (50, C_at7), (51, C_at8), (52, C_at9)]
theorem SpJ1_ok : SpecsOk Try.prog SpJ1 := .cons cat0_ok (.cons cat1_ok (.cons cat2_ok (.cons cat3_ok (.cons cat4_ok (.cons cat5_ok (.cons cat6_ok (.cons cat7_ok (.cons cat8_ok (.cons cat9_ok (.nil _))))))))))
def C_getL42 : FunT := fun args σ => match args, σ with
  | [AV.ptr (Sh.agg [Sh.one, Sh.one, Sh.one, Sh.one, Sh.one, Sh.one, Sh.one, Sh.one, Sh.one, Sh.one]) 0 0 [], AV.dat (D.vptr Sh.one (D.fn (Fn.func 42) [] []))], [{ sh := Sh.agg [Sh.one, Sh.one, Sh.one, Sh.one, Sh.one, Sh.one, Sh.one, Sh.one, Sh.one, Sh.one], dyn := false, frz := false, v := AV.dat (D.agg [D.int IntKind.u64 r, D.int IntKind.i64 li, D.int IntKind.i64 la, D.int IntKind.i64 wh, D.int IntKind.i64 si, D.int IntKind.i64 ba, D.int IntKind.i64 qu, D.int IntKind.u64 qt, D.int IntKind.u64 pr, D.int IntKind.i64 sl]) }] => .leaf ([AV.dat (D.int IntKind.u64 r)], [{ sh := s25, dyn := false, frz := false, v := AV.dat (D.agg [D.int IntKind.u64 r, D.int IntKind.i64 li, D.int IntKind.i64 la, D.int IntKind.i64 wh, D.int IntKind.i64 si, D.int IntKind.i64 ba, D.int IntKind.i64 qu, D.int IntKind.u64 qt, D.int IntKind.u64 pr, D.int IntKind.i64 sl]) }])
  | _, _ => .fail
theorem getL42_raw0 (r li la wh si ba qu qt pr sl : Int) : runF (envOf tab SpJ1 [] [] []) true Try.f62 [eP, .dat (.vptr .one (.fn (.func 42) [] []))] [eB r li la wh si ba qu qt pr sl] =some ([.dat (.int IntKind.u64 r)], [{ sh := s25, dyn := false, frz := false, v := .dat (.agg [D.int IntKind.u64 r, D.int .i64 li, D.int .i64 la, D.int .i64 wh, D.int .i64 si, D.int .i64 ba, D.int .i64 qu, D.int IntKind.u64 qt, D.int IntKind.u64 pr, D.int .i64 sl]) }]) := by kernel_rfl
theorem getL42_case0 (r li la wh si ba qu qt pr sl : Int) : runF (envOf tab SpJ1 [] [] []) true Try.f62 [eP, .dat (.vptr .one (.fn (.func 42) [] []))] [eB r li la wh si ba qu qt pr sl] = FunT.run C_getL42 [eP, .dat (.vptr .one (.fn (.func 42) [] []))] [eB r li la wh si ba qu qt pr sl] := (getL42_raw0 r li la wh si ba qu qt pr sl).trans (by
  show _ = (some (([.dat (.int IntKind.u64 r)], [{ sh := s25, dyn := false, frz := false, v := .dat (.agg [D.int IntKind.u64 r, D.int .i64 li, D.int .i64 la, D.int .i64 wh, D.int .i64 si, D.int .i64 ba, D.int .i64 qu, D.int IntKind.u64 qt, D.int IntKind.u64 pr, D.int .i64 sl]) }]) : Res))
  rfl
  )
theorem cgetL42_ok : FunOk Try.prog 62 (FunT.run C_getL42) := by
  refine fun_ok (E := envOf tab SpJ1 [] [] []) (fz := true) (fn := Try.f62) (envOf_ok progOk SpJ1_ok) (by kernel_rfl) (by kernel_rfl) (loops_none (by kernel_rfl)) ?_
  intro args σ r h
  unfold C_getL42 at h
  split at h
  · exact (getL42_case0 _ _ _ _ _ _ _ _ _ _).trans h
  · simp [T.run_fail] at h
def C_getL50 : FunT := fun args σ => match args, σ with
  | [AV.ptr (Sh.agg [Sh.one, Sh.one, Sh.one, Sh.one, Sh.one, Sh.one, Sh.one, Sh.one, Sh.one, Sh.one]) 0 0 [], AV.dat (D.vptr Sh.one (D.fn (Fn.func 50) [] []))], [{ sh := Sh.agg [Sh.one, Sh.one, Sh.one, Sh.one, Sh.one, Sh.one, Sh.one, Sh.one, Sh.one, Sh.one], dyn := false, frz := false, v := AV.dat (D.agg [D.int IntKind.u64 r, D.int IntKind.i64 li, D.int IntKind.i64 la, D.int IntKind.i64 wh, D.int IntKind.i64 si, D.int IntKind.i64 ba, D.int IntKind.i64 qu, D.int IntKind.u64 qt, D.int IntKind.u64 pr, D.int IntKind.i64 sl]) }] => .leaf ([AV.dat (D.int IntKind.u64 qt)], [{ sh := s25, dyn := false, frz := false, v := AV.dat (D.agg [D.int IntKind.u64 r, D.int IntKind.i64 li, D.int IntKind.i64 la, D.int IntKind.i64 wh, D.int IntKind.i64 si, D.int IntKind.i64 ba, D.int IntKind.i64 qu, D.int IntKind.u64 qt, D.int IntKind.u64 pr, D.int IntKind.i64 sl]) }])
  | _, _ => .fail
theorem getL50_raw0 (r li la wh si ba qu qt pr sl : Int) : runF (envOf tab SpJ1 [] [] []) true Try.f62 [eP, .dat (.vptr .one (.fn (.func 50) [] []))] [eB r li la wh si ba qu qt pr sl] =some ([.dat (.int IntKind.u64 qt)], [{ sh := s25, dyn := false, frz := false, v := .dat (.agg [D.int IntKind.u64 r, D.int .i64 li, D.int .i64 la, D.int .i64 wh, D.int .i64 si, D.int .i64 ba, D.int .i64 qu, D.int IntKind.u64 qt, D.int IntKind.u64 pr, D.int .i64 sl]) }]) := by kernel_rfl
theorem getL50_case0 (r li la wh si ba qu qt pr sl : Int) : runF (envOf tab SpJ1 [] [] []) true Try.f62 [eP, .dat (.vptr .one (.fn (.func 50) [] []))] [eB r li la wh si ba qu qt pr sl] = FunT.run C_getL50 [eP, .dat (.vptr .one (.fn (.func 50) [] []))] [eB r li la wh si ba qu qt pr sl] := (getL50_raw0 r li la wh si ba qu qt pr sl).trans (by
  show _ = (some (([.dat (.int IntKind.u64 qt)], [{ sh := s25, dyn := false, frz := false, v := .dat (.agg [D.int IntKind.u64 r, D.int .i64 li, D.int .i64 la, D.int .i64 wh, D.int .i64 si, D.int .i64 ba, D.int .i64 qu, D.int IntKind.u64 qt, D.int IntKind.u64 pr, D.int .i64 sl]) }]) : Res))
  rfl
  )
theorem cgetL50_ok : FunOk Try.prog 62 (FunT.run C_getL50) := by
  refine fun_ok (E := envOf tab SpJ1 [] [] []) (fz := true) (fn := Try.f62) (envOf_ok progOk SpJ1_ok) (by kernel_rfl) (by kernel_rfl) (loops_none (by kernel_rfl)) ?_
  intro args σ r h
  unfold C_getL50 at h
  split at h
  · exact (getL50_case0 _ _ _ _ _ _ _ _ _ _).trans h
  · simp [T.run_fail] at h
def C_getL51 : FunT := fun args σ => match args, σ with
  | [AV.ptr (Sh.agg [Sh.one, Sh.one, Sh.one, Sh.one, Sh.one, Sh.one, Sh.one, Sh.one, Sh.one, Sh.one]) 0 0 [], AV.dat (D.vptr Sh.one (D.fn (Fn.func 51) [] []))], [{ sh := Sh.agg [Sh.one, Sh.one, Sh.one, Sh.one, Sh.one, Sh.one, Sh.one, Sh.one, Sh.one, Sh.one], dyn := false, frz := false, v := AV.dat (D.agg [D.int IntKind.u64 r, D.int IntKind.i64 li, D.int IntKind.i64 la, D.int IntKind.i64 wh, D.int IntKind.i64 si, D.int IntKind.i64 ba, D.int IntKind.i64 qu, D.int IntKind.u64 qt, D.int IntKind.u64 pr, D.int IntKind.i64 sl]) }] => .leaf ([AV.dat (D.int IntKind.u64 pr)], [{ sh := s25, dyn := false, frz := false, v := AV.dat (D.agg [D.int IntKind.u64 r, D.int IntKind.i64 li, D.int IntKind.i64 la, D.int IntKind.i64 wh, D.int IntKind.i64 si, D.int IntKind.i64 ba, D.int IntKind.i64 qu, D.int IntKind.u64 qt, D.int IntKind.u64 pr, D.int IntKind.i64 sl]) }])
  | _, _ => .fail
theorem getL51_raw0 (r li la wh si ba qu qt pr sl : Int) : runF (envOf tab SpJ1 [] [] []) true Try.f62 [eP, .dat (.vptr .one (.fn (.func 51) [] []))] [eB r li la wh si ba qu qt pr sl] =some ([.dat (.int IntKind.u64 pr)], [{ sh := s25, dyn := false, frz := false, v := .dat (.agg [D.int IntKind.u64 r, D.int .i64 li, D.int .i64 la, D.int .i64 wh, D.int .i64 si, D.int .i64 ba, D.int .i64 qu, D.int IntKind.u64 qt, D.int IntKind.u64 pr, D.int .i64 sl]) }]) := by kernel_rfl
theorem getL51_case0 (r li la wh si ba qu qt pr sl : Int) : runF (envOf tab SpJ1 [] [] []) true Try.f62 [eP, .dat (.vptr .one (.fn (.func 51) [] []))] [eB r li la wh si ba qu qt pr sl] = FunT.run C_getL51 [eP, .dat (.vptr .one (.fn (.func 51) [] []))] [eB r li la wh si ba qu qt pr sl] := (getL51_raw0 r li la wh si ba qu qt pr sl).trans (by
  show _ = (some (([.dat (.int IntKind.u64 pr)], [{ sh := s25, dyn := false, frz := false, v := .dat (.agg [D.int IntKind.u64 r, D.int .i64 li, D.int .i64 la, D.int .i64 wh, D.int .i64 si, D.int .i64 ba, D.int .i64 qu, D.int IntKind.u64 qt, D.int IntKind.u64 pr, D.int .i64 sl]) }]) : Res))
  rfl
  )
theorem cgetL51_ok : FunOk Try.prog 62 (FunT.run C_getL51) := by
  refine fun_ok (E := envOf tab SpJ1 [] [] []) (fz := true) (fn := Try.f62) (envOf_ok progOk SpJ1_ok) (by kernel_rfl) (by kernel_rfl) (loops_none (by kernel_rfl)) ?_
  intro args σ r h
  unfold C_getL51 at h
  split at h
  · exact (getL51_case0 _ _ _ _ _ _ _ _ _ _).trans h
  · simp [T.run_fail] at h
def C_getL : FunT := fun a σ => T.or (C_getL42 a σ) (T.or (C_getL50 a σ) (C_getL51 a σ))
theorem cgetL_ok : FunOk Try.prog 62 (FunT.run C_getL) := FunOk.or cgetL42_ok (FunOk.or cgetL50_ok (cgetL51_ok))
def C_getS44 : FunT := fun args σ => match args, σ with
  | [AV.ptr (Sh.agg [Sh.one, Sh.one, Sh.one, Sh.one, Sh.one, Sh.one, Sh.one, Sh.one, Sh.one, Sh.one]) 0 0 [], AV.dat (D.vptr Sh.one (D.fn (Fn.func 44) [] []))], [{ sh := Sh.agg [Sh.one, Sh.one, Sh.one, Sh.one, Sh.one, Sh.one, Sh.one, Sh.one, Sh.one, Sh.one], dyn := false, frz := false, v := AV.dat (D.agg [D.int IntKind.u64 r, D.int IntKind.i64 li, D.int IntKind.i64 la, D.int IntKind.i64 wh, D.int IntKind.i64 si, D.int IntKind.i64 ba, D.int IntKind.i64 qu, D.int IntKind.u64 qt, D.int IntKind.u64 pr, D.int IntKind.i64 sl]) }] => .leaf ([AV.dat (D.int IntKind.u64 (IntKind.wrap IntKind.u64 li))], [{ sh := s25, dyn := false, frz := false, v := AV.dat (D.agg [D.int IntKind.u64 r, D.int IntKind.i64 li, D.int IntKind.i64 la, D.int IntKind.i64 wh, D.int IntKind.i64 si, D.int IntKind.i64 ba, D.int IntKind.i64 qu, D.int IntKind.u64 qt, D.int IntKind.u64 pr, D.int IntKind.i64 sl]) }])
  | _, _ => .fail
theorem getS44_raw0 (r li la wh si ba qu qt pr sl : Int) : runF (envOf tab SpJ1 [] [] []) true Try.f64 [eP, .dat (.vptr .one (.fn (.func 44) [] []))] [eB r li la wh si ba qu qt pr sl] =some ([.dat (.int IntKind.u64 (IntKind.wrap IntKind.u64 li))], [{ sh := s25, dyn := false, frz := false, v := .dat (.agg [D.int IntKind.u64 r, D.int .i64 li, D.int .i64 la, D.int .i64 wh, D.int .i64 si, D.int .i64 ba, D.int .i64 qu, D.int IntKind.u64 qt, D.int IntKind.u64 pr, D.int .i64 sl]) }]) := by kernel_rfl
theorem getS44_case0 (r li la wh si ba qu qt pr sl : Int) : runF (envOf tab SpJ1 [] [] []) true Try.f64 [eP, .dat (.vptr .one (.fn (.func 44) [] []))] [eB r li la wh si ba qu qt pr sl] = FunT.run C_getS44 [eP, .dat (.vptr .one (.fn (.func 44) [] []))] [eB r li la wh si ba qu qt pr sl] := (getS44_raw0 r li la wh si ba qu qt pr sl).trans (by
  show _ = (some (([.dat (.int IntKind.u64 (IntKind.wrap IntKind.u64 li))], [{ sh := s25, dyn := false, frz := false, v := .dat (.agg [D.int IntKind.u64 r, D.int .i64 li, D.int .i64 la, D.int .i64 wh, D.int .i64 si, D.int .i64 ba, D.int .i64 qu, D.int IntKind.u64 qt, D.int IntKind.u64 pr, D.int .i64 sl]) }]) : Res))
  rfl
  )
theorem cgetS44_ok : FunOk Try.prog 64 (FunT.run C_getS44) := by
  refine fun_ok (E := envOf tab SpJ1 [] [] []) (fz := true) (fn := Try.f64) (envOf_ok progOk SpJ1_ok) (by kernel_rfl) (by kernel_rfl) (loops_none (by kernel_rfl)) ?_
  intro args σ r h
  unfold C_getS44 at h
  split at h
  · exact (getS44_case0 _ _ _ _ _ _ _ _ _ _).trans h
  · simp [T.run_fail] at h
def C_getS45 : FunT := fun args σ => match args, σ with
  | [AV.ptr (Sh.agg [Sh.one, Sh.one, Sh.one, Sh.one, Sh.one, Sh.one, Sh.one, Sh.one, Sh.one, Sh.one]) 0 0 [], AV.dat (D.vptr Sh.one (D.fn (Fn.func 45) [] []))], [{ sh := Sh.agg [Sh.one, Sh.one, Sh.one, Sh.one, Sh.one, Sh.one, Sh.one, Sh.one, Sh.one, Sh.one], dyn := false, frz := false, v := AV.dat (D.agg [D.int IntKind.u64 r, D.int IntKind.i64 li, D.int IntKind.i64 la, D.int IntKind.i64 wh, D.int IntKind.i64 si, D.int IntKind.i64 ba, D.int IntKind.i64 qu, D.int IntKind.u64 qt, D.int IntKind.u64 pr, D.int IntKind.i64 sl]) }] => .leaf ([AV.dat (D.int IntKind.u64 (IntKind.wrap IntKind.u64 la))], [{ sh := s25, dyn := false, frz := false, v := AV.dat (D.agg [D.int IntKind.u64 r, D.int IntKind.i64 li, D.int IntKind.i64 la, D.int IntKind.i64 wh, D.int IntKind.i64 si, D.int IntKind.i64 ba, D.int IntKind.i64 qu, D.int IntKind.u64 qt, D.int IntKind.u64 pr, D.int IntKind.i64 sl]) }])
  | _, _ => .fail
theorem getS45_raw0 (r li la wh si ba qu qt pr sl : Int) : runF (envOf tab SpJ1 [] [] []) true Try.f64 [eP, .dat (.vptr .one (.fn (.func 45) [] []))] [eB r li la wh si ba qu qt pr sl] =some ([.dat (.int IntKind.u64 (IntKind.wrap IntKind.u64 la))], [{ sh := s25, dyn := false, frz := false, v := .dat (.agg [D.int IntKind.u64 r, D.int .i64 li, D.int .i64 la, D.int .i64 wh, D.int .i64 si, D.int .i64 ba, D.int .i64 qu, D.int IntKind.u64 qt, D.int IntKind.u64 pr, D.int .i64 sl]) }]) := by kernel_rfl
theorem getS45_case0 (r li la wh si ba qu qt pr sl : Int) : runF (envOf tab SpJ1 [] [] []) true Try.f64 [eP, .dat (.vptr .one (.fn (.func 45) [] []))] [eB r li la wh si ba qu qt pr sl] = FunT.run C_getS45 [eP, .dat (.vptr .one (.fn (.func 45) [] []))] [eB r li la wh si ba qu qt pr sl] := (getS45_raw0 r li la wh si ba qu qt pr sl).trans (by
  show _ = (some (([.dat (.int IntKind.u64 (IntKind.wrap IntKind.u64 la))], [{ sh := s25, dyn := false, frz := false, v := .dat (.agg [D.int IntKind.u64 r, D.int .i64 li, D.int .i64 la, D.int .i64 wh, D.int .i64 si, D.int .i64 ba, D.int .i64 qu, D.int IntKind.u64 qt, D.int IntKind.u64 pr, D.int .i64 sl]) }]) : Res))
  rfl
  )
theorem cgetS45_ok : FunOk Try.prog 64 (FunT.run C_getS45) := by
  refine fun_ok (E := envOf tab SpJ1 [] [] []) (fz := true) (fn := Try.f64) (envOf_ok progOk SpJ1_ok) (by kernel_rfl) (by kernel_rfl) (loops_none (by kernel_rfl)) ?_
  intro args σ r h
  unfold C_getS45 at h
  split at h
  · exact (getS45_case0 _ _ _ _ _ _ _ _ _ _).trans h
  · simp [T.run_fail] at h
def C_getS46 : FunT := fun args σ => match args, σ with
  | [AV.ptr (Sh.agg [Sh.one, Sh.one, Sh.one, Sh.one, Sh.one, Sh.one, Sh.one, Sh.one, Sh.one, Sh.one]) 0 0 [], AV.dat (D.vptr Sh.one (D.fn (Fn.func 46) [] []))], [{ sh := Sh.agg [Sh.one, Sh.one, Sh.one, Sh.one, Sh.one, Sh.one, Sh.one, Sh.one, Sh.one, Sh.one], dyn := false, frz := false, v := AV.dat (D.agg [D.int IntKind.u64 r, D.int IntKind.i64 li, D.int IntKind.i64 la, D.int IntKind.i64 wh, D.int IntKind.i64 si, D.int IntKind.i64 ba, D.int IntKind.i64 qu, D.int IntKind.u64 qt, D.int IntKind.u64 pr, D.int IntKind.i64 sl]) }] => .leaf ([AV.dat (D.int IntKind.u64 (IntKind.wrap IntKind.u64 wh))], [{ sh := s25, dyn := false, frz := false, v := AV.dat (D.agg [D.int IntKind.u64 r, D.int IntKind.i64 li, D.int IntKind.i64 la, D.int IntKind.i64 wh, D.int IntKind.i64 si, D.int IntKind.i64 ba, D.int IntKind.i64 qu, D.int IntKind.u64 qt, D.int IntKind.u64 pr, D.int IntKind.i64 sl]) }])
  | _, _ => .fail
theorem getS46_raw0 (r li la wh si ba qu qt pr sl : Int) : runF (envOf tab SpJ1 [] [] []) true Try.f64 [eP, .dat (.vptr .one (.fn (.func 46) [] []))] [eB r li la wh si ba qu qt pr sl] =some ([.dat (.int IntKind.u64 (IntKind.wrap IntKind.u64 wh))], [{ sh := s25, dyn := false, frz := false, v := .dat (.agg [D.int IntKind.u64 r, D.int .i64 li, D.int .i64 la, D.int .i64 wh, D.int .i64 si, D.int .i64 ba, D.int .i64 qu, D.int IntKind.u64 qt, D.int IntKind.u64 pr, D.int .i64 sl]) }]) := by kernel_rfl
theorem getS46_case0 (r li la wh si ba qu qt pr sl : Int) : runF (envOf tab SpJ1 [] [] []) true Try.f64 [eP, .dat (.vptr .one (.fn (.func 46) [] []))] [eB r li la wh si ba qu qt pr sl] = FunT.run C_getS46 [eP, .dat (.vptr .one (.fn (.func 46) [] []))] [eB r li la wh si ba qu qt pr sl] := (getS46_raw0 r li la wh si ba qu qt pr sl).trans (by
  show _ = (some (([.dat (.int IntKind.u64 (IntKind.wrap IntKind.u64 wh))], [{ sh := s25, dyn := false, frz := false, v := .dat (.agg [D.int IntKind.u64 r, D.int .i64 li, D.int .i64 la, D.int .i64 wh, D.int .i64 si, D.int .i64 ba, D.int .i64 qu, D.int IntKind.u64 qt, D.int IntKind.u64 pr, D.int .i64 sl]) }]) : Res))
  rfl
  )
theorem cgetS46_ok : FunOk Try.prog 64 (FunT.run C_getS46) := by
  refine fun_ok (E := envOf tab SpJ1 [] [] []) (fz := true) (fn := Try.f64) (envOf_ok progOk SpJ1_ok) (by kernel_rfl) (by kernel_rfl) (loops_none (by kernel_rfl)) ?_
  intro args σ r h
  unfold C_getS46 at h
  split at h
  · exact (getS46_case0 _ _ _ _ _ _ _ _ _ _).trans h
  · simp [T.run_fail] at h
def C_getS47 : FunT := fun args σ => match args, σ with
  | [AV.ptr (Sh.agg [Sh.one, Sh.one, Sh.one, Sh.one, Sh.one, Sh.one, Sh.one, Sh.one, Sh.one, Sh.one]) 0 0 [], AV.dat (D.vptr Sh.one (D.fn (Fn.func 47) [] []))], [{ sh := Sh.agg [Sh.one, Sh.one, Sh.one, Sh.one, Sh.one, Sh.one, Sh.one, Sh.one, Sh.one, Sh.one], dyn := false, frz := false, v := AV.dat (D.agg [D.int IntKind.u64 r, D.int IntKind.i64 li, D.int IntKind.i64 la, D.int IntKind.i64 wh, D.int IntKind.i64 si, D.int IntKind.i64 ba, D.int IntKind.i64 qu, D.int IntKind.u64 qt, D.int IntKind.u64 pr, D.int IntKind.i64 sl]) }] => .leaf ([AV.dat (D.int IntKind.u64 (IntKind.wrap IntKind.u64 si))], [{ sh := s25, dyn := false, frz := false, v := AV.dat (D.agg [D.int IntKind.u64 r, D.int IntKind.i64 li, D.int IntKind.i64 la, D.int IntKind.i64 wh, D.int IntKind.i64 si, D.int IntKind.i64 ba, D.int IntKind.i64 qu, D.int IntKind.u64 qt, D.int IntKind.u64 pr, D.int IntKind.i64 sl]) }])
  | _, _ => .fail
theorem getS47_raw0 (r li la wh si ba qu qt pr sl : Int) : runF (envOf tab SpJ1 [] [] []) true Try.f64 [eP, .dat (.vptr .one (.fn (.func 47) [] []))] [eB r li la wh si ba qu qt pr sl] =some ([.dat (.int IntKind.u64 (IntKind.wrap IntKind.u64 si))], [{ sh := s25, dyn := false, frz := false, v := .dat (.agg [D.int IntKind.u64 r, D.int .i64 li, D.int .i64 la, D.int .i64 wh, D.int .i64 si, D.int .i64 ba, D.int .i64 qu, D.int IntKind.u64 qt, D.int IntKind.u64 pr, D.int .i64 sl]) }]) := by kernel_rfl
theorem getS47_case0 (r li la wh si ba qu qt pr sl : Int) : runF (envOf tab SpJ1 [] [] []) true Try.f64 [eP, .dat (.vptr .one (.fn (.func 47) [] []))] [eB r li la wh si ba qu qt pr sl] = FunT.run C_getS47 [eP, .dat (.vptr .one (.fn (.func 47) [] []))] [eB r li la wh si ba qu qt pr sl] := (getS47_raw0 r li la wh si ba qu qt pr sl).trans (by
  show _ = (some (([.dat (.int IntKind.u64 (IntKind.wrap IntKind.u64 si))], [{ sh := s25, dyn := false, frz := false, v := .dat (.agg [D.int IntKind.u64 r, D.int .i64 li, D.int .i64 la, D.int .i64 wh, D.int .i64 si, D.int .i64 ba, D.int .i64 qu, D.int IntKind.u64 qt, D.int IntKind.u64 pr, D.int .i64 sl]) }]) : Res))
  rfl
  )
theorem cgetS47_ok : FunOk Try.prog 64 (FunT.run C_getS47) := by
  refine fun_ok (E := envOf tab SpJ1 [] [] []) (fz := true) (fn := Try.f64) (envOf_ok progOk SpJ1_ok) (by kernel_rfl) (by kernel_rfl) (loops_none (by kernel_rfl)) ?_
  intro args σ r h
  unfold C_getS47 at h
  split at h
  · exact (getS47_case0 _ _ _ _ _ _ _ _ _ _).trans h
  · simp [T.run_fail] at h
def C_getS48 : FunT := fun args σ => match args, σ with
  | [AV.ptr (Sh.agg [Sh.one, Sh.one, Sh.one, Sh.one, Sh.one, Sh.one, Sh.one, Sh.one, Sh.one, Sh.one]) 0 0 [], AV.dat (D.vptr Sh.one (D.fn (Fn.func 48) [] []))], [{ sh := Sh.agg [Sh.one, Sh.one, Sh.one, Sh.one, Sh.one, Sh.one, Sh.one, Sh.one, Sh.one, Sh.one], dyn := false, frz := false, v := AV.dat (D.agg [D.int IntKind.u64 r, D.int IntKind.i64 li, D.int IntKind.i64 la, D.int IntKind.i64 wh, D.int IntKind.i64 si, D.int IntKind.i64 ba, D.int IntKind.i64 qu, D.int IntKind.u64 qt, D.int IntKind.u64 pr, D.int IntKind.i64 sl]) }] => .leaf ([AV.dat (D.int IntKind.u64 (IntKind.wrap IntKind.u64 ba))], [{ sh := s25, dyn := false, frz := false, v := AV.dat (D.agg [D.int IntKind.u64 r, D.int IntKind.i64 li, D.int IntKind.i64 la, D.int IntKind.i64 wh, D.int IntKind.i64 si, D.int IntKind.i64 ba, D.int IntKind.i64 qu, D.int IntKind.u64 qt, D.int IntKind.u64 pr, D.int IntKind.i64 sl]) }])
  | _, _ => .fail
theorem getS48_raw0 (r li la wh si ba qu qt pr sl : Int) : runF (envOf tab SpJ1 [] [] []) true Try.f64 [eP, .dat (.vptr .one (.fn (.func 48) [] []))] [eB r li la wh si ba qu qt pr sl] =some ([.dat (.int IntKind.u64 (IntKind.wrap IntKind.u64 ba))], [{ sh := s25, dyn := false, frz := false, v := .dat (.agg [D.int IntKind.u64 r, D.int .i64 li, D.int .i64 la, D.int .i64 wh, D.int .i64 si, D.int .i64 ba, D.int .i64 qu, D.int IntKind.u64 qt, D.int IntKind.u64 pr, D.int .i64 sl]) }]) := by kernel_rfl
theorem getS48_case0 (r li la wh si ba qu qt pr sl : Int) : runF (envOf tab SpJ1 [] [] []) true Try.f64 [eP, .dat (.vptr .one (.fn (.func 48) [] []))] [eB r li la wh si ba qu qt pr sl] = FunT.run C_getS48 [eP, .dat (.vptr .one (.fn (.func 48) [] []))] [eB r li la wh si ba qu qt pr sl] := (getS48_raw0 r li la wh si ba qu qt pr sl).trans (by
  show _ = (some (([.dat (.int IntKind.u64 (IntKind.wrap IntKind.u64 ba))], [{ sh := s25, dyn := false, frz := false, v := .dat (.agg [D.int IntKind.u64 r, D.int .i64 li, D.int .i64 la, D.int .i64 wh, D.int .i64 si, D.int .i64 ba, D.int .i64 qu, D.int IntKind.u64 qt, D.int IntKind.u64 pr, D.int .i64 sl]) }]) : Res))
  rfl
  )
theorem cgetS48_ok : FunOk Try.prog 64 (FunT.run C_getS48) := by
  refine fun_ok (E := envOf tab SpJ1 [] [] []) (fz := true) (fn := Try.f64) (envOf_ok progOk SpJ1_ok) (by kernel_rfl) (by kernel_rfl) (loops_none (by kernel_rfl)) ?_
  intro args σ r h
  unfold C_getS48 at h
  split at h
  · exact (getS48_case0 _ _ _ _ _ _ _ _ _ _).trans h
  · simp [T.run_fail] at h
def C_getS49 : FunT := fun args σ => match args, σ with
  | [AV.ptr (Sh.agg [Sh.one, Sh.one, Sh.one, Sh.one, Sh.one, Sh.one, Sh.one, Sh.one, Sh.one, Sh.one]) 0 0 [], AV.dat (D.vptr Sh.one (D.fn (Fn.func 49) [] []))], [{ sh := Sh.agg [Sh.one, Sh.one, Sh.one, Sh.one, Sh.one, Sh.one, Sh.one, Sh.one, Sh.one, Sh.one], dyn := false, frz := false, v := AV.dat (D.agg [D.int IntKind.u64 r, D.int IntKind.i64 li, D.int IntKind.i64 la, D.int IntKind.i64 wh, D.int IntKind.i64 si, D.int IntKind.i64 ba, D.int IntKind.i64 qu, D.int IntKind.u64 qt, D.int IntKind.u64 pr, D.int IntKind.i64 sl]) }] => .leaf ([AV.dat (D.int IntKind.u64 (IntKind.wrap IntKind.u64 qu))], [{ sh := s25, dyn := false, frz := false, v := AV.dat (D.agg [D.int IntKind.u64 r, D.int IntKind.i64 li, D.int IntKind.i64 la, D.int IntKind.i64 wh, D.int IntKind.i64 si, D.int IntKind.i64 ba, D.int IntKind.i64 qu, D.int IntKind.u64 qt, D.int IntKind.u64 pr, D.int IntKind.i64 sl]) }])
  | _, _ => .fail
theorem getS49_raw0 (r li la wh si ba qu qt pr sl : Int) : runF (envOf tab SpJ1 [] [] []) true Try.f64 [eP, .dat (.vptr .one (.fn (.func 49) [] []))] [eB r li la wh si ba qu qt pr sl] =some ([.dat (.int IntKind.u64 (IntKind.wrap IntKind.u64 qu))], [{ sh := s25, dyn := false, frz := false, v := .dat (.agg [D.int IntKind.u64 r, D.int .i64 li, D.int .i64 la, D.int .i64 wh, D.int .i64 si, D.int .i64 ba, D.int .i64 qu, D.int IntKind.u64 qt, D.int IntKind.u64 pr, D.int .i64 sl]) }]) := by kernel_rfl
theorem getS49_case0 (r li la wh si ba qu qt pr sl : Int) : runF (envOf tab SpJ1 [] [] []) true Try.f64 [eP, .dat (.vptr .one (.fn (.func 49) [] []))] [eB r li la wh si ba qu qt pr sl] = FunT.run C_getS49 [eP, .dat (.vptr .one (.fn (.func 49) [] []))] [eB r li la wh si ba qu qt pr sl] := (getS49_raw0 r li la wh si ba qu qt pr sl).trans (by
  show _ = (some (([.dat (.int IntKind.u64 (IntKind.wrap IntKind.u64 qu))], [{ sh := s25, dyn := false, frz := false, v := .dat (.agg [D.int IntKind.u64 r, D.int .i64 li, D.int .i64 la, D.int .i64 wh, D.int .i64 si, D.int .i64 ba, D.int .i64 qu, D.int IntKind.u64 qt, D.int IntKind.u64 pr, D.int .i64 sl]) }]) : Res))
  rfl
  )
theorem cgetS49_ok : FunOk Try.prog 64 (FunT.run C_getS49) := by
  refine fun_ok (E := envOf tab SpJ1 [] [] []) (fz := true) (fn := Try.f64) (envOf_ok progOk SpJ1_ok) (by kernel_rfl) (by kernel_rfl) (loops_none (by kernel_rfl)) ?_
  intro args σ r h
  unfold C_getS49 at h
  split at h
  · exact (getS49_case0 _ _ _ _ _ _ _ _ _ _).trans h
  · simp [T.run_fail] at h
def C_getS52 : FunT := fun args σ => match args, σ with
  | [AV.ptr (Sh.agg [Sh.one, Sh.one, Sh.one, Sh.one, Sh.one, Sh.one, Sh.one, Sh.one, Sh.one, Sh.one]) 0 0 [], AV.dat (D.vptr Sh.one (D.fn (Fn.func 52) [] []))], [{ sh := Sh.agg [Sh.one, Sh.one, Sh.one, Sh.one, Sh.one, Sh.one, Sh.one, Sh.one, Sh.one, Sh.one], dyn := false, frz := false, v := AV.dat (D.agg [D.int IntKind.u64 r, D.int IntKind.i64 li, D.int IntKind.i64 la, D.int IntKind.i64 wh, D.int IntKind.i64 si, D.int IntKind.i64 ba, D.int IntKind.i64 qu, D.int IntKind.u64 qt, D.int IntKind.u64 pr, D.int IntKind.i64 sl]) }] => .leaf ([AV.dat (D.int IntKind.u64 (IntKind.wrap IntKind.u64 sl))], [{ sh := s25, dyn := false, frz := false, v := AV.dat (D.agg [D.int IntKind.u64 r, D.int IntKind.i64 li, D.int IntKind.i64 la, D.int IntKind.i64 wh, D.int IntKind.i64 si, D.int IntKind.i64 ba, D.int IntKind.i64 qu, D.int IntKind.u64 qt, D.int IntKind.u64 pr, D.int IntKind.i64 sl]) }])
  | _, _ => .fail
theorem getS52_raw0 (r li la wh si ba qu qt pr sl : Int) : runF (envOf tab SpJ1 [] [] []) true Try.f64 [eP, .dat (.vptr .one (.fn (.func 52) [] []))] [eB r li la wh si ba qu qt pr sl] =some ([.dat (.int IntKind.u64 (IntKind.wrap IntKind.u64 sl))], [{ sh := s25, dyn := false, frz := false, v := .dat (.agg [D.int IntKind.u64 r, D.int .i64 li, D.int .i64 la, D.int .i64 wh, D.int .i64 si, D.int .i64 ba, D.int .i64 qu, D.int IntKind.u64 qt, D.int IntKind.u64 pr, D.int .i64 sl]) }]) := by kernel_rfl
theorem getS52_case0 (r li la wh si ba qu qt pr sl : Int) : runF (envOf tab SpJ1 [] [] []) true Try.f64 [eP, .dat (.vptr .one (.fn (.func 52) [] []))] [eB r li la wh si ba qu qt pr sl] = FunT.run C_getS52 [eP, .dat (.vptr .one (.fn (.func 52) [] []))] [eB r li la wh si ba qu qt pr sl] := (getS52_raw0 r li la wh si ba qu qt pr sl).trans (by
  show _ = (some (([.dat (.int IntKind.u64 (IntKind.wrap IntKind.u64 sl))], [{ sh := s25, dyn := false, frz := false, v := .dat (.agg [D.int IntKind.u64 r, D.int .i64 li, D.int .i64 la, D.int .i64 wh, D.int .i64 si, D.int .i64 ba, D.int .i64 qu, D.int IntKind.u64 qt, D.int IntKind.u64 pr, D.int .i64 sl]) }]) : Res))
  rfl
  )
theorem cgetS52_ok : FunOk Try.prog 64 (FunT.run C_getS52) := by
  refine fun_ok (E := envOf tab SpJ1 [] [] []) (fz := true) (fn := Try.f64) (envOf_ok progOk SpJ1_ok) (by kernel_rfl) (by kernel_rfl) (loops_none (by kernel_rfl)) ?_
  intro args σ r h
  unfold C_getS52 at h
  split at h
  · exact (getS52_case0 _ _ _ _ _ _ _ _ _ _).trans h
  · simp [T.run_fail] at h
def C_getS : FunT := fun a σ => T.or (C_getS44 a σ) (T.or (C_getS45 a σ) (T.or (C_getS46 a σ) (T.or (C_getS47 a σ) (T.or (C_getS48 a σ) (T.or (C_getS49 a σ) (C_getS52 a σ))))))
theorem cgetS_ok : FunOk Try.prog 64 (FunT.run C_getS) := FunOk.or cgetS44_ok (FunOk.or cgetS45_ok (FunOk.or cgetS46_ok (FunOk.or cgetS47_ok (FunOk.or cgetS48_ok (FunOk.or cgetS49_ok (cgetS52_ok))))))
def C_setL42 : FunT := fun args σ => match args, σ with
  | [AV.ptr (Sh.agg [Sh.one, Sh.one, Sh.one, Sh.one, Sh.one, Sh.one, Sh.one, Sh.one, Sh.one, Sh.one]) 0 0 [], AV.dat (D.int IntKind.u64 n), AV.dat (D.vptr Sh.one (D.fn (Fn.func 42) [] []))], [{ sh := Sh.agg [Sh.one, Sh.one, Sh.one, Sh.one, Sh.one, Sh.one, Sh.one, Sh.one, Sh.one, Sh.one], dyn := false, frz := false, v := AV.dat (D.agg [D.int IntKind.u64 _, D.int IntKind.i64 li, D.int IntKind.i64 la, D.int IntKind.i64 wh, D.int IntKind.i64 si, D.int IntKind.i64 ba, D.int IntKind.i64 qu, D.int IntKind.u64 qt, D.int IntKind.u64 pr, D.int IntKind.i64 sl]) }] => .leaf ([], [{ sh := s25, dyn := false, frz := false, v := AV.dat (D.agg [D.int IntKind.u64 n, D.int IntKind.i64 li, D.int IntKind.i64 la, D.int IntKind.i64 wh, D.int IntKind.i64 si, D.int IntKind.i64 ba, D.int IntKind.i64 qu, D.int IntKind.u64 qt, D.int IntKind.u64 pr, D.int IntKind.i64 sl]) }])
  | _, _ => .fail
theorem setL42_raw0 (r li la wh si ba qu qt pr sl n : Int) : runF (envOf tab SpJ1 [] [] []) true Try.f63 [eP, .dat (.int .u64 n), .dat (.vptr .one (.fn (.func 42) [] []))] [eB r li la wh si ba qu qt pr sl] =some ([], [{ sh := s25, dyn := false, frz := false, v := .dat (.agg [D.int IntKind.u64 n, D.int .i64 li, D.int .i64 la, D.int .i64 wh, D.int .i64 si, D.int .i64 ba, D.int .i64 qu, D.int IntKind.u64 qt, D.int IntKind.u64 pr, D.int .i64 sl]) }]) := by kernel_rfl
theorem setL42_case0 (r li la wh si ba qu qt pr sl n : Int) : runF (envOf tab SpJ1 [] [] []) true Try.f63 [eP, .dat (.int .u64 n), .dat (.vptr .one (.fn (.func 42) [] []))] [eB r li la wh si ba qu qt pr sl] = FunT.run C_setL42 [eP, .dat (.int .u64 n), .dat (.vptr .one (.fn (.func 42) [] []))] [eB r li la wh si ba qu qt pr sl] := (setL42_raw0 r li la wh si ba qu qt pr sl n).trans (by
  show _ = (some (([], [{ sh := s25, dyn := false, frz := false, v := .dat (.agg [D.int IntKind.u64 n, D.int .i64 li, D.int .i64 la, D.int .i64 wh, D.int .i64 si, D.int .i64 ba, D.int .i64 qu, D.int IntKind.u64 qt, D.int IntKind.u64 pr, D.int .i64 sl]) }]) : Res))
  rfl
  )
theorem csetL42_ok : FunOk Try.prog 63 (FunT.run C_setL42) := by
  refine fun_ok (E := envOf tab SpJ1 [] [] []) (fz := true) (fn := Try.f63) (envOf_ok progOk SpJ1_ok) (by kernel_rfl) (by kernel_rfl) (loops_none (by kernel_rfl)) ?_
  intro args σ r h
  unfold C_setL42 at h
  split at h
  · exact (setL42_case0 _ _ _ _ _ _ _ _ _ _ _).trans h
  · simp [T.run_fail] at h
def C_setL50 : FunT := fun args σ => match args, σ with
  | [AV.ptr (Sh.agg [Sh.one, Sh.one, Sh.one, Sh.one, Sh.one, Sh.one, Sh.one, Sh.one, Sh.one, Sh.one]) 0 0 [], AV.dat (D.int IntKind.u64 n), AV.dat (D.vptr Sh.one (D.fn (Fn.func 50) [] []))], [{ sh := Sh.agg [Sh.one, Sh.one, Sh.one, Sh.one, Sh.one, Sh.one, Sh.one, Sh.one, Sh.one, Sh.one], dyn := false, frz := false, v := AV.dat (D.agg [D.int IntKind.u64 r, D.int IntKind.i64 li, D.int IntKind.i64 la, D.int IntKind.i64 wh, D.int IntKind.i64 si, D.int IntKind.i64 ba, D.int IntKind.i64 qu, D.int IntKind.u64 _, D.int IntKind.u64 pr, D.int IntKind.i64 sl]) }] => .leaf ([], [{ sh := s25, dyn := false, frz := false, v := AV.dat (D.agg [D.int IntKind.u64 r, D.int IntKind.i64 li, D.int IntKind.i64 la, D.int IntKind.i64 wh, D.int IntKind.i64 si, D.int IntKind.i64 ba, D.int IntKind.i64 qu, D.int IntKind.u64 n, D.int IntKind.u64 pr, D.int IntKind.i64 sl]) }])
  | _, _ => .fail
theorem setL50_raw0 (r li la wh si ba qu qt pr sl n : Int) : runF (envOf tab SpJ1 [] [] []) true Try.f63 [eP, .dat (.int .u64 n), .dat (.vptr .one (.fn (.func 50) [] []))] [eB r li la wh si ba qu qt pr sl] =some ([], [{ sh := s25, dyn := false, frz := false, v := .dat (.agg [D.int IntKind.u64 r, D.int .i64 li, D.int .i64 la, D.int .i64 wh, D.int .i64 si, D.int .i64 ba, D.int .i64 qu, D.int IntKind.u64 n, D.int IntKind.u64 pr, D.int .i64 sl]) }]) := by kernel_rfl
theorem setL50_case0 (r li la wh si ba qu qt pr sl n : Int) : runF (envOf tab SpJ1 [] [] []) true Try.f63 [eP, .dat (.int .u64 n), .dat (.vptr .one (.fn (.func 50) [] []))] [eB r li la wh si ba qu qt pr sl] = FunT.run C_setL50 [eP, .dat (.int .u64 n), .dat (.vptr .one (.fn (.func 50) [] []))] [eB r li la wh si ba qu qt pr sl] := (setL50_raw0 r li la wh si ba qu qt pr sl n).trans (by
  show _ = (some (([], [{ sh := s25, dyn := false, frz := false, v := .dat (.agg [D.int IntKind.u64 r, D.int .i64 li, D.int .i64 la, D.int .i64 wh, D.int .i64 si, D.int .i64 ba, D.int .i64 qu, D.int IntKind.u64 n, D.int IntKind.u64 pr, D.int .i64 sl]) }]) : Res))
  rfl
  )
theorem csetL50_ok : FunOk Try.prog 63 (FunT.run C_setL50) := by
  refine fun_ok (E := envOf tab SpJ1 [] [] []) (fz := true) (fn := Try.f63) (envOf_ok progOk SpJ1_ok) (by kernel_rfl) (by kernel_rfl) (loops_none (by kernel_rfl)) ?_
  intro args σ r h
  unfold C_setL50 at h
  split at h
  · exact (setL50_case0 _ _ _ _ _ _ _ _ _ _ _).trans h
  · simp [T.run_fail] at h
def C_setL51 : FunT := fun args σ => match args, σ with
  | [AV.ptr (Sh.agg [Sh.one, Sh.one, Sh.one, Sh.one, Sh.one, Sh.one, Sh.one, Sh.one, Sh.one, Sh.one]) 0 0 [], AV.dat (D.int IntKind.u64 n), AV.dat (D.vptr Sh.one (D.fn (Fn.func 51) [] []))], [{ sh := Sh.agg [Sh.one, Sh.one, Sh.one, Sh.one, Sh.one, Sh.one, Sh.one, Sh.one, Sh.one, Sh.one], dyn := false, frz := false, v := AV.dat (D.agg [D.int IntKind.u64 r, D.int IntKind.i64 li, D.int IntKind.i64 la, D.int IntKind.i64 wh, D.int IntKind.i64 si, D.int IntKind.i64 ba, D.int IntKind.i64 qu, D.int IntKind.u64 qt, D.int IntKind.u64 _, D.int IntKind.i64 sl]) }] => .leaf ([], [{ sh := s25, dyn := false, frz := false, v := AV.dat (D.agg [D.int IntKind.u64 r, D.int IntKind.i64 li, D.int IntKind.i64 la, D.int IntKind.i64 wh, D.int IntKind.i64 si, D.int IntKind.i64 ba, D.int IntKind.i64 qu, D.int IntKind.u64 qt, D.int IntKind.u64 n, D.int IntKind.i64 sl]) }])
  | _, _ => .fail
theorem setL51_raw0 (r li la wh si ba qu qt pr sl n : Int) : runF (envOf tab SpJ1 [] [] []) true Try.f63 [eP, .dat (.int .u64 n), .dat (.vptr .one (.fn (.func 51) [] []))] [eB r li la wh si ba qu qt pr sl] =some ([], [{ sh := s25, dyn := false, frz := false, v := .dat (.agg [D.int IntKind.u64 r, D.int .i64 li, D.int .i64 la, D.int .i64 wh, D.int .i64 si, D.int .i64 ba, D.int .i64 qu, D.int IntKind.u64 qt, D.int IntKind.u64 n, D.int .i64 sl]) }]) := by kernel_rfl
theorem setL51_case0 (r li la wh si ba qu qt pr sl n : Int) : runF (envOf tab SpJ1 [] [] []) true Try.f63 [eP, .dat (.int .u64 n), .dat (.vptr .one (.fn (.func 51) [] []))] [eB r li la wh si ba qu qt pr sl] = FunT.run C_setL51 [eP, .dat (.int .u64 n), .dat (.vptr .one (.fn (.func 51) [] []))] [eB r li la wh si ba qu qt pr sl] := (setL51_raw0 r li la wh si ba qu qt pr sl n).trans (by
  show _ = (some (([], [{ sh := s25, dyn := false, frz := false, v := .dat (.agg [D.int IntKind.u64 r, D.int .i64 li, D.int .i64 la, D.int .i64 wh, D.int .i64 si, D.int .i64 ba, D.int .i64 qu, D.int IntKind.u64 qt, D.int IntKind.u64 n, D.int .i64 sl]) }]) : Res))
  rfl
  )
theorem csetL51_ok : FunOk Try.prog 63 (FunT.run C_setL51) := by
  refine fun_ok (E := envOf tab SpJ1 [] [] []) (fz := true) (fn := Try.f63) (envOf_ok progOk SpJ1_ok) (by kernel_rfl) (by kernel_rfl) (loops_none (by kernel_rfl)) ?_
  intro args σ r h
  unfold C_setL51 at h
  split at h
  · exact (setL51_case0 _ _ _ _ _ _ _ _ _ _ _).trans h
  · simp [T.run_fail] at h
def C_setL : FunT := fun a σ => T.or (C_setL42 a σ) (T.or (C_setL50 a σ) (C_setL51 a σ))
theorem csetL_ok : FunOk Try.prog 63 (FunT.run C_setL) := FunOk.or csetL42_ok (FunOk.or csetL50_ok (csetL51_ok))
def C_setS44 : FunT := fun args σ => match args, σ with
  | [AV.ptr (Sh.agg [Sh.one, Sh.one, Sh.one, Sh.one, Sh.one, Sh.one, Sh.one, Sh.one, Sh.one, Sh.one]) 0 0 [], AV.dat (D.int IntKind.u64 n), AV.dat (D.vptr Sh.one (D.fn (Fn.func 44) [] []))], [{ sh := Sh.agg [Sh.one, Sh.one, Sh.one, Sh.one, Sh.one, Sh.one, Sh.one, Sh.one, Sh.one, Sh.one], dyn := false, frz := false, v := AV.dat (D.agg [D.int IntKind.u64 r, D.int IntKind.i64 _, D.int IntKind.i64 la, D.int IntKind.i64 wh, D.int IntKind.i64 si, D.int IntKind.i64 ba, D.int IntKind.i64 qu, D.int IntKind.u64 qt, D.int IntKind.u64 pr, D.int IntKind.i64 sl]) }] => .leaf ([], [{ sh := s25, dyn := false, frz := false, v := AV.dat (D.agg [D.int IntKind.u64 r, D.int IntKind.i64 (IntKind.wrap IntKind.i64 n), D.int IntKind.i64 la, D.int IntKind.i64 wh, D.int IntKind.i64 si, D.int IntKind.i64 ba, D.int IntKind.i64 qu, D.int IntKind.u64 qt, D.int IntKind.u64 pr, D.int IntKind.i64 sl]) }])
  | _, _ => .fail
theorem setS44_raw0 (r li la wh si ba qu qt pr sl n : Int) : runF (envOf tab SpJ1 [] [] []) true Try.f65 [eP, .dat (.int .u64 n), .dat (.vptr .one (.fn (.func 44) [] []))] [eB r li la wh si ba qu qt pr sl] =some ([], [{ sh := s25, dyn := false, frz := false, v := .dat (.agg [D.int IntKind.u64 r, D.int .i64 (IntKind.wrap IntKind.i64 n), D.int .i64 la, D.int .i64 wh, D.int .i64 si, D.int .i64 ba, D.int .i64 qu, D.int IntKind.u64 qt, D.int IntKind.u64 pr, D.int .i64 sl]) }]) := by kernel_rfl
theorem setS44_case0 (r li la wh si ba qu qt pr sl n : Int) : runF (envOf tab SpJ1 [] [] []) true Try.f65 [eP, .dat (.int .u64 n), .dat (.vptr .one (.fn (.func 44) [] []))] [eB r li la wh si ba qu qt pr sl] = FunT.run C_setS44 [eP, .dat (.int .u64 n), .dat (.vptr .one (.fn (.func 44) [] []))] [eB r li la wh si ba qu qt pr sl] := (setS44_raw0 r li la wh si ba qu qt pr sl n).trans (by
  show _ = (some (([], [{ sh := s25, dyn := false, frz := false, v := .dat (.agg [D.int IntKind.u64 r, D.int .i64 (IntKind.wrap IntKind.i64 n), D.int .i64 la, D.int .i64 wh, D.int .i64 si, D.int .i64 ba, D.int .i64 qu, D.int IntKind.u64 qt, D.int IntKind.u64 pr, D.int .i64 sl]) }]) : Res))
  rfl
  )
theorem csetS44_ok : FunOk Try.prog 65 (FunT.run C_setS44) := by
  refine fun_ok (E := envOf tab SpJ1 [] [] []) (fz := true) (fn := Try.f65) (envOf_ok progOk SpJ1_ok) (by kernel_rfl) (by kernel_rfl) (loops_none (by kernel_rfl)) ?_
  intro args σ r h
  unfold C_setS44 at h
  split at h
  · exact (setS44_case0 _ _ _ _ _ _ _ _ _ _ _).trans h
  · simp [T.run_fail] at h
def C_setS45 : FunT := fun args σ => match args, σ with
  | [AV.ptr (Sh.agg [Sh.one, Sh.one, Sh.one, Sh.one, Sh.one, Sh.one, Sh.one, Sh.one, Sh.one, Sh.one]) 0 0 [], AV.dat (D.int IntKind.u64 n), AV.dat (D.vptr Sh.one (D.fn (Fn.func 45) [] []))], [{ sh := Sh.agg [Sh.one, Sh.one, Sh.one, Sh.one, Sh.one, Sh.one, Sh.one, Sh.one, Sh.one, Sh.one], dyn := false, frz := false, v := AV.dat (D.agg [D.int IntKind.u64 r, D.int IntKind.i64 li, D.int IntKind.i64 _, D.int IntKind.i64 wh, D.int IntKind.i64 si, D.int IntKind.i64 ba, D.int IntKind.i64 qu, D.int IntKind.u64 qt, D.int IntKind.u64 pr, D.int IntKind.i64 sl]) }] => .leaf ([], [{ sh := s25, dyn := false, frz := false, v := AV.dat (D.agg [D.int IntKind.u64 r, D.int IntKind.i64 li, D.int IntKind.i64 (IntKind.wrap IntKind.i64 n), D.int IntKind.i64 wh, D.int IntKind.i64 si, D.int IntKind.i64 ba, D.int IntKind.i64 qu, D.int IntKind.u64 qt, D.int IntKind.u64 pr, D.int IntKind.i64 sl]) }])
  | _, _ => .fail
theorem setS45_raw0 (r li la wh si ba qu qt pr sl n : Int) : runF (envOf tab SpJ1 [] [] []) true Try.f65 [eP, .dat (.int .u64 n), .dat (.vptr .one (.fn (.func 45) [] []))] [eB r li la wh si ba qu qt pr sl] =some ([], [{ sh := s25, dyn := false, frz := false, v := .dat (.agg [D.int IntKind.u64 r, D.int .i64 li, D.int .i64 (IntKind.wrap IntKind.i64 n), D.int .i64 wh, D.int .i64 si, D.int .i64 ba, D.int .i64 qu, D.int IntKind.u64 qt, D.int IntKind.u64 pr, D.int .i64 sl]) }]) := by kernel_rfl
theorem setS45_case0 (r li la wh si ba qu qt pr sl n : Int) : runF (envOf tab SpJ1 [] [] []) true Try.f65 [eP, .dat (.int .u64 n), .dat (.vptr .one (.fn (.func 45) [] []))] [eB r li la wh si ba qu qt pr sl] = FunT.run C_setS45 [eP, .dat (.int .u64 n), .dat (.vptr .one (.fn (.func 45) [] []))] [eB r li la wh si ba qu qt pr sl] := (setS45_raw0 r li la wh si ba qu qt pr sl n).trans (by
  show _ = (some (([], [{ sh := s25, dyn := false, frz := false, v := .dat (.agg [D.int IntKind.u64 r, D.int .i64 li, D.int .i64 (IntKind.wrap IntKind.i64 n), D.int .i64 wh, D.int .i64 si, D.int .i64 ba, D.int .i64 qu, D.int IntKind.u64 qt, D.int IntKind.u64 pr, D.int .i64 sl]) }]) : Res))
  rfl
  )
theorem csetS45_ok : FunOk Try.prog 65 (FunT.run C_setS45) := by
  refine fun_ok (E := envOf tab SpJ1 [] [] []) (fz := true) (fn := Try.f65) (envOf_ok progOk SpJ1_ok) (by kernel_rfl) (by kernel_rfl) (loops_none (by kernel_rfl)) ?_
  intro args σ r h
  unfold C_setS45 at h
  split at h
  · exact (setS45_case0 _ _ _ _ _ _ _ _ _ _ _).trans h
  · simp [T.run_fail] at h
def C_setS46 : FunT := fun args σ => match args, σ with
  | [AV.ptr (Sh.agg [Sh.one, Sh.one, Sh.one, Sh.one, Sh.one, Sh.one, Sh.one, Sh.one, Sh.one, Sh.one]) 0 0 [], AV.dat (D.int IntKind.u64 n), AV.dat (D.vptr Sh.one (D.fn (Fn.func 46) [] []))], [{ sh := Sh.agg [Sh.one, Sh.one, Sh.one, Sh.one, Sh.one, Sh.one, Sh.one, Sh.one, Sh.one, Sh.one], dyn := false, frz := false, v := AV.dat (D.agg [D.int IntKind.u64 r, D.int IntKind.i64 li, D.int IntKind.i64 la, D.int IntKind.i64 _, D.int IntKind.i64 si, D.int IntKind.i64 ba, D.int IntKind.i64 qu, D.int IntKind.u64 qt, D.int IntKind.u64 pr, D.int IntKind.i64 sl]) }] => .leaf ([], [{ sh := s25, dyn := false, frz := false, v := AV.dat (D.agg [D.int IntKind.u64 r, D.int IntKind.i64 li, D.int IntKind.i64 la, D.int IntKind.i64 (IntKind.wrap IntKind.i64 n), D.int IntKind.i64 si, D.int IntKind.i64 ba, D.int IntKind.i64 qu, D.int IntKind.u64 qt, D.int IntKind.u64 pr, D.int IntKind.i64 sl]) }])
  | _, _ => .fail
theorem setS46_raw0 (r li la wh si ba qu qt pr sl n : Int) : runF (envOf tab SpJ1 [] [] []) true Try.f65 [eP, .dat (.int .u64 n), .dat (.vptr .one (.fn (.func 46) [] []))] [eB r li la wh si ba qu qt pr sl] =some ([], [{ sh := s25, dyn := false, frz := false, v := .dat (.agg [D.int IntKind.u64 r, D.int .i64 li, D.int .i64 la, D.int .i64 (IntKind.wrap IntKind.i64 n), D.int .i64 si, D.int .i64 ba, D.int .i64 qu, D.int IntKind.u64 qt, D.int IntKind.u64 pr, D.int .i64 sl]) }]) := by kernel_rfl
theorem setS46_case0 (r li la wh si ba qu qt pr sl n : Int) : runF (envOf tab SpJ1 [] [] []) true Try.f65 [eP, .dat (.int .u64 n), .dat (.vptr .one (.fn (.func 46) [] []))] [eB r li la wh si ba qu qt pr sl] = FunT.run C_setS46 [eP, .dat (.int .u64 n), .dat (.vptr .one (.fn (.func 46) [] []))] [eB r li la wh si ba qu qt pr sl] := (setS46_raw0 r li la wh si ba qu qt pr sl n).trans (by
  show _ = (some (([], [{ sh := s25, dyn := false, frz := false, v := .dat (.agg [D.int IntKind.u64 r, D.int .i64 li, D.int .i64 la, D.int .i64 (IntKind.wrap IntKind.i64 n), D.int .i64 si, D.int .i64 ba, D.int .i64 qu, D.int IntKind.u64 qt, D.int IntKind.u64 pr, D.int .i64 sl]) }]) : Res))
  rfl
  )
theorem csetS46_ok : FunOk Try.prog 65 (FunT.run C_setS46) := by
  refine fun_ok (E := envOf tab SpJ1 [] [] []) (fz := true) (fn := Try.f65) (envOf_ok progOk SpJ1_ok) (by kernel_rfl) (by kernel_rfl) (loops_none (by kernel_rfl)) ?_
  intro args σ r h
  unfold C_setS46 at h
  split at h
  · exact (setS46_case0 _ _ _ _ _ _ _ _ _ _ _).trans h
  · simp [T.run_fail] at h
def C_setS47 : FunT := fun args σ => match args, σ with
  | [AV.ptr (Sh.agg [Sh.one, Sh.one, Sh.one, Sh.one, Sh.one, Sh.one, Sh.one, Sh.one, Sh.one, Sh.one]) 0 0 [], AV.dat (D.int IntKind.u64 n), AV.dat (D.vptr Sh.one (D.fn (Fn.func 47) [] []))], [{ sh := Sh.agg [Sh.one, Sh.one, Sh.one, Sh.one, Sh.one, Sh.one, Sh.one, Sh.one, Sh.one, Sh.one], dyn := false, frz := false, v := AV.dat (D.agg [D.int IntKind.u64 r, D.int IntKind.i64 li, D.int IntKind.i64 la, D.int IntKind.i64 wh, D.int IntKind.i64 _, D.int IntKind.i64 ba, D.int IntKind.i64 qu, D.int IntKind.u64 qt, D.int IntKind.u64 pr, D.int IntKind.i64 sl]) }] => .leaf ([], [{ sh := s25, dyn := false, frz := false, v := AV.dat (D.agg [D.int IntKind.u64 r, D.int IntKind.i64 li, D.int IntKind.i64 la, D.int IntKind.i64 wh, D.int IntKind.i64 (IntKind.wrap IntKind.i64 n), D.int IntKind.i64 ba, D.int IntKind.i64 qu, D.int IntKind.u64 qt, D.int IntKind.u64 pr, D.int IntKind.i64 sl]) }])
  | _, _ => .fail
theorem setS47_raw0 (r li la wh si ba qu qt pr sl n : Int) : runF (envOf tab SpJ1 [] [] []) true Try.f65 [eP, .dat (.int .u64 n), .dat (.vptr .one (.fn (.func 47) [] []))] [eB r li la wh si ba qu qt pr sl] =some ([], [{ sh := s25, dyn := false, frz := false, v := .dat (.agg [D.int IntKind.u64 r, D.int .i64 li, D.int .i64 la, D.int .i64 wh, D.int .i64 (IntKind.wrap IntKind.i64 n), D.int .i64 ba, D.int .i64 qu, D.int IntKind.u64 qt, D.int IntKind.u64 pr, D.int .i64 sl]) }]) := by kernel_rfl
theorem setS47_case0 (r li la wh si ba qu qt pr sl n : Int) : runF (envOf tab SpJ1 [] [] []) true Try.f65 [eP, .dat (.int .u64 n), .dat (.vptr .one (.fn (.func 47) [] []))] [eB r li la wh si ba qu qt pr sl] = FunT.run C_setS47 [eP, .dat (.int .u64 n), .dat (.vptr .one (.fn (.func 47) [] []))] [eB r li la wh si ba qu qt pr sl] := (setS47_raw0 r li la wh si ba qu qt pr sl n).trans (by
  show _ = (some (([], [{ sh := s25, dyn := false, frz := false, v := .dat (.agg [D.int IntKind.u64 r, D.int .i64 li, D.int .i64 la, D.int .i64 wh, D.int .i64 (IntKind.wrap IntKind.i64 n), D.int .i64 ba, D.int .i64 qu, D.int IntKind.u64 qt, D.int IntKind.u64 pr, D.int .i64 sl]) }]) : Res))
  rfl
  )
theorem csetS47_ok : FunOk Try.prog 65 (FunT.run C_setS47) := by
  refine fun_ok (E := envOf tab SpJ1 [] [] []) (fz := true) (fn := Try.f65) (envOf_ok progOk SpJ1_ok) (by kernel_rfl) (by kernel_rfl) (loops_none (by kernel_rfl)) ?_
  intro args σ r h
  unfold C_setS47 at h
  split at h
  · exact (setS47_case0 _ _ _ _ _ _ _ _ _ _ _).trans h
  · simp [T.run_fail] at h
def C_setS48 : FunT := fun args σ => match args, σ with
  | [AV.ptr (Sh.agg [Sh.one, Sh.one, Sh.one, Sh.one, Sh.one, Sh.one, Sh.one, Sh.one, Sh.one, Sh.one]) 0 0 [], AV.dat (D.int IntKind.u64 n), AV.dat (D.vptr Sh.one (D.fn (Fn.func 48) [] []))], [{ sh := Sh.agg [Sh.one, Sh.one, Sh.one, Sh.one, Sh.one, Sh.one, Sh.one, Sh.one, Sh.one, Sh.one], dyn := false, frz := false, v := AV.dat (D.agg [D.int IntKind.u64 r, D.int IntKind.i64 li, D.int IntKind.i64 la, D.int IntKind.i64 wh, D.int IntKind.i64 si, D.int IntKind.i64 _, D.int IntKind.i64 qu, D.int IntKind.u64 qt, D.int IntKind.u64 pr, D.int IntKind.i64 sl]) }] => .leaf ([], [{ sh := s25, dyn := false, frz := false, v := AV.dat (D.agg [D.int IntKind.u64 r, D.int IntKind.i64 li, D.int IntKind.i64 la, D.int IntKind.i64 wh, D.int IntKind.i64 si, D.int IntKind.i64 (IntKind.wrap IntKind.i64 n), D.int IntKind.i64 qu, D.int IntKind.u64 qt, D.int IntKind.u64 pr, D.int IntKind.i64 sl]) }])
  | _, _ => .fail
theorem setS48_raw0 (r li la wh si ba qu qt pr sl n : Int) : runF (envOf tab SpJ1 [] [] []) true Try.f65 [eP, .dat (.int .u64 n), .dat (.vptr .one (.fn (.func 48) [] []))] [eB r li la wh si ba qu qt pr sl] =some ([], [{ sh := s25, dyn := false, frz := false, v := .dat (.agg [D.int IntKind.u64 r, D.int .i64 li, D.int .i64 la, D.int .i64 wh, D.int .i64 si, D.int .i64 (IntKind.wrap IntKind.i64 n), D.int .i64 qu, D.int IntKind.u64 qt, D.int IntKind.u64 pr, D.int .i64 sl]) }]) := by kernel_rfl
theorem setS48_case0 (r li la wh si ba qu qt pr sl n : Int) : runF (envOf tab SpJ1 [] [] []) true Try.f65 [eP, .dat (.int .u64 n), .dat (.vptr .one (.fn (.func 48) [] []))] [eB r li la wh si ba qu qt pr sl] = FunT.run C_setS48 [eP, .dat (.int .u64 n), .dat (.vptr .one (.fn (.func 48) [] []))] [eB r li la wh si ba qu qt pr sl] := (setS48_raw0 r li la wh si ba qu qt pr sl n).trans (by
  show _ = (some (([], [{ sh := s25, dyn := false, frz := false, v := .dat (.agg [D.int IntKind.u64 r, D.int .i64 li, D.int .i64 la, D.int .i64 wh, D.int .i64 si, D.int .i64 (IntKind.wrap IntKind.i64 n), D.int .i64 qu, D.int IntKind.u64 qt, D.int IntKind.u64 pr, D.int .i64 sl]) }]) : Res))
  rfl
  )
theorem csetS48_ok : FunOk Try.prog 65 (FunT.run C_setS48) := by
  refine fun_ok (E := envOf tab SpJ1 [] [] []) (fz := true) (fn := Try.f65) (envOf_ok progOk SpJ1_ok) (by kernel_rfl) (by kernel_rfl) (loops_none (by kernel_rfl)) ?_
  intro args σ r h
  unfold C_setS48 at h
  split at h
  · exact (setS48_case0 _ _ _ _ _ _ _ _ _ _ _).trans h
  · simp [T.run_fail] at h
def C_setS49 : FunT := fun args σ => match args, σ with
  | [AV.ptr (Sh.agg [Sh.one, Sh.one, Sh.one, Sh.one, Sh.one, Sh.one, Sh.one, Sh.one, Sh.one, Sh.one]) 0 0 [], AV.dat (D.int IntKind.u64 n), AV.dat (D.vptr Sh.one (D.fn (Fn.func 49) [] []))], [{ sh := Sh.agg [Sh.one, Sh.one, Sh.one, Sh.one, Sh.one, Sh.one, Sh.one, Sh.one, Sh.one, Sh.one], dyn := false, frz := false, v := AV.dat (D.agg [D.int IntKind.u64 r, D.int IntKind.i64 li, D.int IntKind.i64 la, D.int IntKind.i64 wh, D.int IntKind.i64 si, D.int IntKind.i64 ba, D.int IntKind.i64 _, D.int IntKind.u64 qt, D.int IntKind.u64 pr, D.int IntKind.i64 sl]) }] => .leaf ([], [{ sh := s25, dyn := false, frz := false, v := AV.dat (D.agg [D.int IntKind.u64 r, D.int IntKind.i64 li, D.int IntKind.i64 la, D.int IntKind.i64 wh, D.int IntKind.i64 si, D.int IntKind.i64 ba, D.int IntKind.i64 (IntKind.wrap IntKind.i64 n), D.int IntKind.u64 qt, D.int IntKind.u64 pr, D.int IntKind.i64 sl]) }])
  | _, _ => .fail
theorem setS49_raw0 (r li la wh si ba qu qt pr sl n : Int) : runF (envOf tab SpJ1 [] [] []) true Try.f65 [eP, .dat (.int .u64 n), .dat (.vptr .one (.fn (.func 49) [] []))] [eB r li la wh si ba qu qt pr sl] =some ([], [{ sh := s25, dyn := false, frz := false, v := .dat (.agg [D.int IntKind.u64 r, D.int .i64 li, D.int .i64 la, D.int .i64 wh, D.int .i64 si, D.int .i64 ba, D.int .i64 (IntKind.wrap IntKind.i64 n), D.int IntKind.u64 qt, D.int IntKind.u64 pr, D.int .i64 sl]) }]) := by kernel_rfl
theorem setS49_case0 (r li la wh si ba qu qt pr sl n : Int) : runF (envOf tab SpJ1 [] [] []) true Try.f65 [eP, .dat (.int .u64 n), .dat (.vptr .one (.fn (.func 49) [] []))] [eB r li la wh si ba qu qt pr sl] = FunT.run C_setS49 [eP, .dat (.int .u64 n), .dat (.vptr .one (.fn (.func 49) [] []))] [eB r li la wh si ba qu qt pr sl] := (setS49_raw0 r li la wh si ba qu qt pr sl n).trans (by
  show _ = (some (([], [{ sh := s25, dyn := false, frz := false, v := .dat (.agg [D.int IntKind.u64 r, D.int .i64 li, D.int .i64 la, D.int .i64 wh, D.int .i64 si, D.int .i64 ba, D.int .i64 (IntKind.wrap IntKind.i64 n), D.int IntKind.u64 qt, D.int IntKind.u64 pr, D.int .i64 sl]) }]) : Res))
  rfl
  )
theorem csetS49_ok : FunOk Try.prog 65 (FunT.run C_setS49) := by
  refine fun_ok (E := envOf tab SpJ1 [] [] []) (fz := true) (fn := Try.f65) (envOf_ok progOk SpJ1_ok) (by kernel_rfl) (by kernel_rfl) (loops_none (by kernel_rfl)) ?_
  intro args σ r h
  unfold C_setS49 at h
  split at h
  · exact (setS49_case0 _ _ _ _ _ _ _ _ _ _ _).trans h
  · simp [T.run_fail] at h
def C_setS52 : FunT := fun args σ => match args, σ with
  | [AV.ptr (Sh.agg [Sh.one, Sh.one, Sh.one, Sh.one, Sh.one, Sh.one, Sh.one, Sh.one, Sh.one, Sh.one]) 0 0 [], AV.dat (D.int IntKind.u64 n), AV.dat (D.vptr Sh.one (D.fn (Fn.func 52) [] []))], [{ sh := Sh.agg [Sh.one, Sh.one, Sh.one, Sh.one, Sh.one, Sh.one, Sh.one, Sh.one, Sh.one, Sh.one], dyn := false, frz := false, v := AV.dat (D.agg [D.int IntKind.u64 r, D.int IntKind.i64 li, D.int IntKind.i64 la, D.int IntKind.i64 wh, D.int IntKind.i64 si, D.int IntKind.i64 ba, D.int IntKind.i64 qu, D.int IntKind.u64 qt, D.int IntKind.u64 pr, D.int IntKind.i64 _]) }] => .leaf ([], [{ sh := s25, dyn := false, frz := false, v := AV.dat (D.agg [D.int IntKind.u64 r, D.int IntKind.i64 li, D.int IntKind.i64 la, D.int IntKind.i64 wh, D.int IntKind.i64 si, D.int IntKind.i64 ba, D.int IntKind.i64 qu, D.int IntKind.u64 qt, D.int IntKind.u64 pr, D.int IntKind.i64 (IntKind.wrap IntKind.i64 n)]) }])
  | _, _ => .fail
theorem setS52_raw0 (r li la wh si ba qu qt pr sl n : Int) : runF (envOf tab SpJ1 [] [] []) true Try.f65 [eP, .dat (.int .u64 n), .dat (.vptr .one (.fn (.func 52) [] []))] [eB r li la wh si ba qu qt pr sl] =some ([], [{ sh := s25, dyn := false, frz := false, v := .dat (.agg [D.int IntKind.u64 r, D.int .i64 li, D.int .i64 la, D.int .i64 wh, D.int .i64 si, D.int .i64 ba, D.int .i64 qu, D.int IntKind.u64 qt, D.int IntKind.u64 pr, D.int .i64 (IntKind.wrap IntKind.i64 n)]) }]) := by kernel_rfl
theorem setS52_case0 (r li la wh si ba qu qt pr sl n : Int) : runF (envOf tab SpJ1 [] [] []) true Try.f65 [eP, .dat (.int .u64 n), .dat (.vptr .one (.fn (.func 52) [] []))] [eB r li la wh si ba qu qt pr sl] = FunT.run C_setS52 [eP, .dat (.int .u64 n), .dat (.vptr .one (.fn (.func 52) [] []))] [eB r li la wh si ba qu qt pr sl] := (setS52_raw0 r li la wh si ba qu qt pr sl n).trans (by
  show _ = (some (([], [{ sh := s25, dyn := false, frz := false, v := .dat (.agg [D.int IntKind.u64 r, D.int .i64 li, D.int .i64 la, D.int .i64 wh, D.int .i64 si, D.int .i64 ba, D.int .i64 qu, D.int IntKind.u64 qt, D.int IntKind.u64 pr, D.int .i64 (IntKind.wrap IntKind.i64 n)]) }]) : Res))
  rfl
  )
theorem csetS52_ok : FunOk Try.prog 65 (FunT.run C_setS52) := by
  refine fun_ok (E := envOf tab SpJ1 [] [] []) (fz := true) (fn := Try.f65) (envOf_ok progOk SpJ1_ok) (by kernel_rfl) (by kernel_rfl) (loops_none (by kernel_rfl)) ?_
  intro args σ r h
  unfold C_setS52 at h
  split at h
  · exact (setS52_case0 _ _ _ _ _ _ _ _ _ _ _).trans h
  · simp [T.run_fail] at h
def C_setS : FunT := fun a σ => T.or (C_setS44 a σ) (T.or (C_setS45 a σ) (T.or (C_setS46 a σ) (T.or (C_setS47 a σ) (T.or (C_setS48 a σ) (T.or (C_setS49 a σ) (C_setS52 a σ))))))
theorem csetS_ok : FunOk Try.prog 65 (FunT.run C_setS) := FunOk.or csetS44_ok (FunOk.or csetS45_ok (FunOk.or csetS46_ok (FunOk.or csetS47_ok (FunOk.or csetS48_ok (FunOk.or csetS49_ok (csetS52_ok))))))
end Go.Proofs.Ytdmmobjegfhneaa
