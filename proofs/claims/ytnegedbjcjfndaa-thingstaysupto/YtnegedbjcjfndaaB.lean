/- Seat 16: items and their holders. -/
import Derived.Test.YtnegedbjcjfndaaA
namespace Go.Proofs.Ytnegedbjcjfndaa
open Go.AX
set_option maxRecDepth 100000

abbrev SpN : Specs := [(36, C_nright), (41, C_rright)]
theorem SpN_ok : SpecsOk Try.prog SpN := .cons cnright_ok (.cons crright_ok (.nil _))
def isn_v0 (n : Int) : Bool := decide ((0 : Int) ≤ n) && decide (n ≤ (127 : Int))
def C_isn : FunT := fun args σ => match args, σ with
  | [AV.dat (D.int IntKind.i64 n)], [] => .leaf ([AV.dat (D.bool (isn_v0 n))], [])
  | _, _ => .fail
theorem isn_raw0 (n : Int) : runF (envOf tab [] [] [] []) true Try.f51 [.dat (.int .i64 n)] [] =
  (bif decide (n ≥ (0 : Int)) then some ([AV.dat (D.bool (decide (n ≤ (127 : Int))))], []) else some ([AV.dat (D.bool false)], [])) := by kernel_rfl
theorem isn_case0 (n : Int) : runF (envOf tab [] [] [] []) true Try.f51 [.dat (.int .i64 n)] [] = FunT.run C_isn [.dat (.int .i64 n)] [] := (isn_raw0 n).trans (by
  show _ = some (([AV.dat (D.bool (decide ((0 : Int) ≤ n) && decide (n ≤ (127 : Int))))], []) : Res)
  generalize (decide ((0 : Int) ≤ n)) = z0
  cases z0 with
  | true =>
   rfl
  | false =>
   rfl
  )
theorem cisn_ok : FunOk Try.prog 51 (FunT.run C_isn) := by
  refine fun_ok (E := envOf tab [] [] [] []) (fz := true) (fn := Try.f51) (envOf_ok progOk (.nil _)) (by kernel_rfl) (by kernel_rfl) (loops_none (by kernel_rfl)) ?_
  intro args σ r h
  unfold C_isn at h
  split at h
  · exact (isn_case0 _).trans h
  · simp [T.run_fail] at h

def C_ofi : FunT := fun args σ => match args, σ with
  | [AV.dat (D.agg [D.bool _, D.str _, D.int IntKind.i64 k, D.int IntKind.i64 w, D.agg [D.int IntKind.i64 a, D.int IntKind.i64 b]])], [] => .leaf ([AV.dat (D.agg [D.int IntKind.i64 k, D.int IntKind.i64 w, D.agg [D.int IntKind.i64 a, D.int IntKind.i64 b]])], [])
  | _, _ => .fail
theorem ofi_raw0 (u : Bool) (s : ByteArray) (k w a b : Int) : runF (envOf tab [] [] [] []) true Try.f50 [.dat (.agg [.bool u, .str s, .int .i64 k, .int .i64 w, .agg [.int .i64 a, .int .i64 b]])] [] =some ([AV.dat (D.agg [D.int IntKind.i64 k, D.int IntKind.i64 w, D.agg [D.int IntKind.i64 a, D.int IntKind.i64 b]])], []) := by kernel_rfl
theorem ofi_case0 (u : Bool) (s : ByteArray) (k w a b : Int) : runF (envOf tab [] [] [] []) true Try.f50 [.dat (.agg [.bool u, .str s, .int .i64 k, .int .i64 w, .agg [.int .i64 a, .int .i64 b]])] [] = FunT.run C_ofi [.dat (.agg [.bool u, .str s, .int .i64 k, .int .i64 w, .agg [.int .i64 a, .int .i64 b]])] [] := (ofi_raw0 u s k w a b).trans (by
  show _ = some (([AV.dat (D.agg [D.int IntKind.i64 k, D.int IntKind.i64 w, D.agg [D.int IntKind.i64 a, D.int IntKind.i64 b]])], []) : Res)
  rfl
  )
theorem cofi_ok : FunOk Try.prog 50 (FunT.run C_ofi) := by
  refine fun_ok (E := envOf tab [] [] [] []) (fz := true) (fn := Try.f50) (envOf_ok progOk (.nil _)) (by kernel_rfl) (by kernel_rfl) (loops_none (by kernel_rfl)) ?_
  intro args σ r h
  unfold C_ofi at h
  split at h
  · exact (ofi_case0 _ _ _ _ _ _).trans h
  · simp [T.run_fail] at h

def toi_pre (w2 : Int) (a2 : Int) (b2 : Int) : Bool := D.eqb (D.agg [D.int IntKind.i64 a2, D.int IntKind.i64 b2]) (D.agg [D.int IntKind.i64 a2, D.int IntKind.i64 b2]) && (D.eqb (D.int IntKind.i64 w2) (D.int IntKind.i64 w2) && true) && D.eqb (D.agg [D.int IntKind.i64 a2, D.int IntKind.i64 b2]) (D.agg [D.int IntKind.i64 a2, D.int IntKind.i64 b2])
def C_toi : FunT := fun args σ => match args, σ with
  | [AV.dat (D.agg [D.bool u, D.str s, D.int IntKind.i64 _, D.int IntKind.i64 _, D.agg [D.int IntKind.i64 _, D.int IntKind.i64 _]]), AV.dat (D.agg [D.int IntKind.i64 k2, D.int IntKind.i64 w2, D.agg [D.int IntKind.i64 a2, D.int IntKind.i64 b2]])], [] => .chk ((toi_pre w2 a2 b2)) (.leaf ([AV.dat (D.agg [D.bool u, D.str s, D.int IntKind.i64 k2, D.int IntKind.i64 w2, D.agg [D.int IntKind.i64 a2, D.int IntKind.i64 b2]])], []))
  | _, _ => .fail
theorem toi_raw0 (u : Bool) (s : ByteArray) (k w a b k2 w2 a2 b2 : Int) : runF (envOf tab [] [] [] []) true Try.f39 [.dat (.agg [.bool u, .str s, .int .i64 k, .int .i64 w, .agg [.int .i64 a, .int .i64 b]]), .dat (.agg [.int .i64 k2, .int .i64 w2, .agg [.int .i64 a2, .int .i64 b2]])] [] =
  (bif D.eqb (D.agg [D.int IntKind.i64 a2, D.int IntKind.i64 b2]) (D.agg [D.int IntKind.i64 a2, D.int IntKind.i64 b2]) && (D.eqb (D.int IntKind.i64 w2) (D.int IntKind.i64 w2) && true) then 
   (bif D.eqb (D.agg [D.int IntKind.i64 a2, D.int IntKind.i64 b2]) (D.agg [D.int IntKind.i64 a2, D.int IntKind.i64 b2]) && true then some ([AV.dat (D.agg [D.bool u, D.str s, D.int IntKind.i64 k2, D.int IntKind.i64 w2, D.agg [D.int IntKind.i64 a2, D.int IntKind.i64 b2]])], []) else none) else none) := by kernel_rfl
theorem toi_case0 (u : Bool) (s : ByteArray) (k w a b k2 w2 a2 b2 : Int) : runF (envOf tab [] [] [] []) true Try.f39 [.dat (.agg [.bool u, .str s, .int .i64 k, .int .i64 w, .agg [.int .i64 a, .int .i64 b]]), .dat (.agg [.int .i64 k2, .int .i64 w2, .agg [.int .i64 a2, .int .i64 b2]])] [] = FunT.run C_toi [.dat (.agg [.bool u, .str s, .int .i64 k, .int .i64 w, .agg [.int .i64 a, .int .i64 b]]), .dat (.agg [.int .i64 k2, .int .i64 w2, .agg [.int .i64 a2, .int .i64 b2]])] [] := (toi_raw0 u s k w a b k2 w2 a2 b2).trans (by
  show _ = (cond (D.eqb (D.agg [D.int IntKind.i64 a2, D.int IntKind.i64 b2]) (D.agg [D.int IntKind.i64 a2, D.int IntKind.i64 b2]) && (D.eqb (D.int IntKind.i64 w2) (D.int IntKind.i64 w2) && true) && D.eqb (D.agg [D.int IntKind.i64 a2, D.int IntKind.i64 b2]) (D.agg [D.int IntKind.i64 a2, D.int IntKind.i64 b2])) (some (([AV.dat (D.agg [D.bool u, D.str s, D.int IntKind.i64 k2, D.int IntKind.i64 w2, D.agg [D.int IntKind.i64 a2, D.int IntKind.i64 b2]])], []) : Res)) none)
  generalize (D.eqb (D.agg [D.int IntKind.i64 a2, D.int IntKind.i64 b2]) (D.agg [D.int IntKind.i64 a2, D.int IntKind.i64 b2]) && (D.eqb (D.int IntKind.i64 w2) (D.int IntKind.i64 w2) && true)) = z0
  cases z0 with
  | true =>
   generalize (D.eqb (D.agg [D.int IntKind.i64 a2, D.int IntKind.i64 b2]) (D.agg [D.int IntKind.i64 a2, D.int IntKind.i64 b2])) = z1
   cases z1 with
   | true =>
    rfl
   | false =>
    rfl
  | false =>
   rfl
  )
theorem ctoi_ok : FunOk Try.prog 39 (FunT.run C_toi) := by
  refine fun_ok (E := envOf tab [] [] [] []) (fz := true) (fn := Try.f39) (envOf_ok progOk (.nil _)) (by kernel_rfl) (by kernel_rfl) (loops_none (by kernel_rfl)) ?_
  intro args σ r h
  unfold C_toi at h
  split at h
  · exact (toi_case0 _ _ _ _ _ _ _ _ _ _).trans h
  · simp [T.run_fail] at h

def may_v0 (k : Int) (w : Int) (a : Int) (b : Int) : Bool := bif k == (1 : Int) then isn_v0 w && false != (a == (0 : Int) && (b == (0 : Int) && true)) else bif k == (3 : Int) then isn_v0 w && false != (a == (0 : Int) && (b == (0 : Int) && true)) else k == (2 : Int) && (w == (0 : Int) && (isn_v0 a && isn_v0 b))
def C_may : FunT := fun args σ => match args, σ with
  | [AV.dat (D.agg [D.int IntKind.i64 k, D.int IntKind.i64 w, D.agg [D.int IntKind.i64 a, D.int IntKind.i64 b]])], [] => .leaf ([AV.dat (D.bool (may_v0 k w a b))], [])
  | _, _ => .fail
theorem may_raw0 (k w a b : Int) : runF (envOf tab [(51, C_isn)] [] [] []) true Try.f35 [.dat (.agg [.int .i64 k, .int .i64 w, .agg [.int .i64 a, .int .i64 b]])] [] =
  (bif k == (1 : Int) then 
   (bif k == (1 : Int) then 
    (bif isn_v0 w then some ([AV.dat (D.bool (false != (a == (0 : Int) && (b == (0 : Int) && true))))], []) else some ([AV.dat (D.bool false)], [])) else 
    (bif k == (2 : Int) then 
     (bif w == (0 : Int) then 
      (bif isn_v0 a then some ([AV.dat (D.bool (isn_v0 b))], []) else some ([AV.dat (D.bool false)], [])) else some ([AV.dat (D.bool false)], [])) else some ([AV.dat (D.bool false)], []))) else 
   (bif k == (3 : Int) then 
    (bif isn_v0 w then some ([AV.dat (D.bool (false != (a == (0 : Int) && (b == (0 : Int) && true))))], []) else some ([AV.dat (D.bool false)], [])) else 
    (bif k == (2 : Int) then 
     (bif w == (0 : Int) then 
      (bif isn_v0 a then some ([AV.dat (D.bool (isn_v0 b))], []) else some ([AV.dat (D.bool false)], [])) else some ([AV.dat (D.bool false)], [])) else some ([AV.dat (D.bool false)], [])))) := by kernel_rfl
theorem may_case0 (k w a b : Int) : runF (envOf tab [(51, C_isn)] [] [] []) true Try.f35 [.dat (.agg [.int .i64 k, .int .i64 w, .agg [.int .i64 a, .int .i64 b]])] [] = FunT.run C_may [.dat (.agg [.int .i64 k, .int .i64 w, .agg [.int .i64 a, .int .i64 b]])] [] := (may_raw0 k w a b).trans (by
  show _ = some (([AV.dat (D.bool (bif k == (1 : Int) then isn_v0 w && false != (a == (0 : Int) && (b == (0 : Int) && true)) else bif k == (3 : Int) then isn_v0 w && false != (a == (0 : Int) && (b == (0 : Int) && true)) else k == (2 : Int) && (w == (0 : Int) && (isn_v0 a && isn_v0 b))))], []) : Res)
  generalize (k == (1 : Int)) = z0
  cases z0 with
  | true =>
   generalize (isn_v0 w) = z1
   cases z1 with
   | true =>
    rfl
   | false =>
    rfl
  | false =>
   generalize (k == (3 : Int)) = z1
   cases z1 with
   | true =>
    generalize (isn_v0 w) = z2
    cases z2 with
    | true =>
     rfl
    | false =>
     rfl
   | false =>
    generalize (k == (2 : Int)) = z2
    cases z2 with
    | true =>
     generalize (w == (0 : Int)) = z3
     cases z3 with
     | true =>
      generalize (isn_v0 a) = z4
      cases z4 with
      | true =>
       rfl
      | false =>
       rfl
     | false =>
      rfl
    | false =>
     rfl
  )
theorem cmay_ok : FunOk Try.prog 35 (FunT.run C_may) := by
  refine fun_ok (E := envOf tab [(51, C_isn)] [] [] []) (fz := true) (fn := Try.f35) (envOf_ok progOk (.cons cisn_ok (.nil _))) (by kernel_rfl) (by kernel_rfl) (loops_none (by kernel_rfl)) ?_
  intro args σ r h
  unfold C_may at h
  split at h
  · exact (may_case0 _ _ _ _).trans h
  · simp [T.run_fail] at h

def C_hnd : FunT := fun args σ => match args, σ with
  | [AV.dat (D.int IntKind.i64 w)], [] => .leaf ([AV.dat (D.agg [D.int IntKind.i64 (1 : Int), D.int IntKind.i64 w, D.agg [D.int IntKind.i64 (0 : Int), D.int IntKind.i64 (0 : Int)]])], [])
  | _, _ => .fail
theorem hnd_raw0 (w : Int) : runF (envOf tab [] [] [] []) true Try.f33 [.dat (.int .i64 w)] [] =some ([AV.dat (D.agg [D.int IntKind.i64 (1 : Int), D.int IntKind.i64 w, D.agg [D.int IntKind.i64 (0 : Int), D.int IntKind.i64 (0 : Int)]])], []) := by kernel_rfl
theorem hnd_case0 (w : Int) : runF (envOf tab [] [] [] []) true Try.f33 [.dat (.int .i64 w)] [] = FunT.run C_hnd [.dat (.int .i64 w)] [] := (hnd_raw0 w).trans (by
  show _ = some (([AV.dat (D.agg [D.int IntKind.i64 (1 : Int), D.int IntKind.i64 w, D.agg [D.int IntKind.i64 (0 : Int), D.int IntKind.i64 (0 : Int)]])], []) : Res)
  rfl
  )
theorem chnd_ok : FunOk Try.prog 33 (FunT.run C_hnd) := by
  refine fun_ok (E := envOf tab [] [] [] []) (fz := true) (fn := Try.f33) (envOf_ok progOk (.nil _)) (by kernel_rfl) (by kernel_rfl) (loops_none (by kernel_rfl)) ?_
  intro args σ r h
  unfold C_hnd at h
  split at h
  · exact (hnd_case0 _).trans h
  · simp [T.run_fail] at h

def C_rom : FunT := fun args σ => match args, σ with
  | [AV.dat (D.agg [D.int IntKind.i64 a, D.int IntKind.i64 b])], [] => .leaf ([AV.dat (D.agg [D.int IntKind.i64 (2 : Int), D.int IntKind.i64 (0 : Int), D.agg [D.int IntKind.i64 a, D.int IntKind.i64 b]])], [])
  | _, _ => .fail
theorem rom_raw0 (a b : Int) : runF (envOf tab [] [] [] []) true Try.f34 [.dat (.agg [.int .i64 a, .int .i64 b])] [] =some ([AV.dat (D.agg [D.int IntKind.i64 (2 : Int), D.int IntKind.i64 (0 : Int), D.agg [D.int IntKind.i64 a, D.int IntKind.i64 b]])], []) := by kernel_rfl
theorem rom_case0 (a b : Int) : runF (envOf tab [] [] [] []) true Try.f34 [.dat (.agg [.int .i64 a, .int .i64 b])] [] = FunT.run C_rom [.dat (.agg [.int .i64 a, .int .i64 b])] [] := (rom_raw0 a b).trans (by
  show _ = some (([AV.dat (D.agg [D.int IntKind.i64 (2 : Int), D.int IntKind.i64 (0 : Int), D.agg [D.int IntKind.i64 a, D.int IntKind.i64 b]])], []) : Res)
  rfl
  )
theorem crom_ok : FunOk Try.prog 34 (FunT.run C_rom) := by
  refine fun_ok (E := envOf tab [] [] [] []) (fz := true) (fn := Try.f34) (envOf_ok progOk (.nil _)) (by kernel_rfl) (by kernel_rfl) (loops_none (by kernel_rfl)) ?_
  intro args σ r h
  unfold C_rom at h
  split at h
  · exact (rom_case0 _ _).trans h
  · simp [T.run_fail] at h

def C_trd : FunT := fun args σ => match args, σ with
  | [AV.dat (D.int IntKind.i64 w)], [] => .leaf ([AV.dat (D.agg [D.int IntKind.i64 (3 : Int), D.int IntKind.i64 w, D.agg [D.int IntKind.i64 (0 : Int), D.int IntKind.i64 (0 : Int)]])], [])
  | _, _ => .fail
theorem trd_raw0 (w : Int) : runF (envOf tab [] [] [] []) true Try.f47 [.dat (.int .i64 w)] [] =some ([AV.dat (D.agg [D.int IntKind.i64 (3 : Int), D.int IntKind.i64 w, D.agg [D.int IntKind.i64 (0 : Int), D.int IntKind.i64 (0 : Int)]])], []) := by kernel_rfl
theorem trd_case0 (w : Int) : runF (envOf tab [] [] [] []) true Try.f47 [.dat (.int .i64 w)] [] = FunT.run C_trd [.dat (.int .i64 w)] [] := (trd_raw0 w).trans (by
  show _ = some (([AV.dat (D.agg [D.int IntKind.i64 (3 : Int), D.int IntKind.i64 w, D.agg [D.int IntKind.i64 (0 : Int), D.int IntKind.i64 (0 : Int)]])], []) : Res)
  rfl
  )
theorem ctrd_ok : FunOk Try.prog 47 (FunT.run C_trd) := by
  refine fun_ok (E := envOf tab [] [] [] []) (fz := true) (fn := Try.f47) (envOf_ok progOk (.nil _)) (by kernel_rfl) (by kernel_rfl) (loops_none (by kernel_rfl)) ?_
  intro args σ r h
  unfold C_trd at h
  split at h
  · exact (trd_case0 _).trans h
  · simp [T.run_fail] at h

abbrev SpI1 : Specs := (35, C_may) :: (50, C_ofi) :: SpN
theorem SpI1_ok : SpecsOk Try.prog SpI1 := .cons cmay_ok (.cons cofi_ok SpN_ok)
def wri_v0 (u : Bool) (s : ByteArray) (k : Int) (w : Int) (a : Int) (b : Int) : Bool := bif u then !nright_v0 s || !may_v0 k w a b else true != (u == false && (decide (Array.toList (ByteArray.data s) = []) && (k == (0 : Int) && (w == (0 : Int) && (a == (0 : Int) && (b == (0 : Int) && true) && true)))))
def wri_pre (u : Bool) (s : ByteArray) : Bool := !u || nright_pre s
def C_wri : FunT := fun args σ => match args, σ with
  | [AV.dat (D.agg [D.bool u, D.str s, D.int IntKind.i64 k, D.int IntKind.i64 w, D.agg [D.int IntKind.i64 a, D.int IntKind.i64 b]])], [] => .chk ((wri_pre u s)) (.leaf ([AV.dat (D.bool (wri_v0 u s k w a b))], []))
  | _, _ => .fail
theorem wri_raw0 (u : Bool) (s : ByteArray) (k w a b : Int) : runF (envOf tab SpI1 [] [] []) true Try.f31 [.dat (.agg [.bool u, .str s, .int .i64 k, .int .i64 w, .agg [.int .i64 a, .int .i64 b]])] [] =
  (bif !u then some ([AV.dat (D.bool (true != (u == false && (decide (Array.toList (ByteArray.data s) = []) && (k == (0 : Int) && (w == (0 : Int) && (a == (0 : Int) && (b == (0 : Int) && true) && true)))))))], []) else 
   (bif nright_pre s then 
    (bif !nright_v0 s then some ([AV.dat (D.bool true)], []) else some ([AV.dat (D.bool !may_v0 k w a b)], [])) else none)) := by kernel_rfl
theorem wri_case0 (u : Bool) (s : ByteArray) (k w a b : Int) : runF (envOf tab SpI1 [] [] []) true Try.f31 [.dat (.agg [.bool u, .str s, .int .i64 k, .int .i64 w, .agg [.int .i64 a, .int .i64 b]])] [] = FunT.run C_wri [.dat (.agg [.bool u, .str s, .int .i64 k, .int .i64 w, .agg [.int .i64 a, .int .i64 b]])] [] := (wri_raw0 u s k w a b).trans (by
  show _ = (cond (!u || nright_pre s) (some (([AV.dat (D.bool (bif u then !nright_v0 s || !may_v0 k w a b else true != (u == false && (decide (Array.toList (ByteArray.data s) = []) && (k == (0 : Int) && (w == (0 : Int) && (a == (0 : Int) && (b == (0 : Int) && true) && true)))))))], []) : Res)) none)
  generalize (u) = z0
  cases z0 with
  | true =>
   generalize (nright_pre s) = z1
   cases z1 with
   | true =>
    generalize (nright_v0 s) = z2
    cases z2 with
    | true =>
     rfl
    | false =>
     rfl
   | false =>
    rfl
  | false =>
   rfl
  )
theorem cwri_ok : FunOk Try.prog 31 (FunT.run C_wri) := by
  refine fun_ok (E := envOf tab SpI1 [] [] []) (fz := true) (fn := Try.f31) (envOf_ok progOk SpI1_ok) (by kernel_rfl) (by kernel_rfl) (loops_none (by kernel_rfl)) ?_
  intro args σ r h
  unfold C_wri at h
  split at h
  · exact (wri_case0 _ _ _ _ _ _).trans h
  · simp [T.run_fail] at h

abbrev fU (d : D) : Bool := D.getB (nthD (D.getL d) 0)
abbrev fS (d : D) : ByteArray := D.getS (nthD (D.getL d) 1)
abbrev fK (d : D) : Int := D.getI (nthD (D.getL d) 2)
abbrev fW (d : D) : Int := D.getI (nthD (D.getL d) 3)
abbrev fA (d : D) : Int := D.getI (nthD (D.getL (nthD (D.getL d) 4)) 0)
abbrev fB (d : D) : Int := D.getI (nthD (D.getL (nthD (D.getL d) 4)) 1)
def iw_fr (ls : List D) (n : Int) : Int → Frame' := fun i => mkF 19 [(0, .dat (.slc (.agg [.one, .one, .one, .one, .agg [.one, .one]]) ls)), (1, (.dat (.fn (.func 31) [] []))), (7, .dat (.int .i64 n)), (8, .dat (.int .i64 i))]
def iw_st (_ : List D) (_ : Int) : Int → Store := fun _ => ([])
def iw_step (ls : List D) (n : Int) : Int → T (Int ⊕ LOut) := fun i => 
  .br (decide (i < n)) (
   .chk (decide ((0 : Int) ≤ i)) (
    .chk (decide (Int.toNat i < List.length ls)) (
     .chk (okE (Ek.agg [Ek.bool, Ek.str, Ek.int IntKind.i64, Ek.int IntKind.i64, Ek.agg [Ek.int IntKind.i64, Ek.int IntKind.i64]]) (nthD ls (Int.toNat i))) (
      .chk (wri_pre (D.getB (nthD (D.getL (nthD ls (Int.toNat i))) 0)) (D.getS (nthD (D.getL (nthD ls (Int.toNat i))) 1))) (
       .br (wri_v0 (D.getB (nthD (D.getL (nthD ls (Int.toNat i))) 0)) (D.getS (nthD (D.getL (nthD ls (Int.toNat i))) 1)) (D.getI (nthD (D.getL (nthD ls (Int.toNat i))) 2)) (D.getI (nthD (D.getL (nthD ls (Int.toNat i))) 3)) (D.getI (nthD (D.getL (nthD (D.getL (nthD ls (Int.toNat i))) 4)) 0)) (D.getI (nthD (D.getL (nthD (D.getL (nthD ls (Int.toNat i))) 4)) 1))) (.leaf (.inr (none, mkF 19 [(4, AV.dat (D.int IntKind.i64 i))], []))) (.leaf (.inl (IntKind.wrap IntKind.i64 (i + (1 : Int)))))))))) (.leaf (.inr ((some 0), mkF 19 [], [])))
theorem iw_round (lp : Loops) (ls : List D) (n : Int) (i : Int) (K : Kt) : oneRound (envOf tab ([(31, C_wri)]) [] lp []) Try.f49 0 (0) (mkF 19 [(0, .dat (.slc (.agg [.one, .one, .one, .one, .agg [.one, .one]]) ls)), (1, (.dat (.fn (.func 31) [] []))), (7, .dat (.int .i64 n)), (8, .dat (.int .i64 i))]) (([])) K =
  (bif decide (i < n) then 
   (bif decide ((0 : Int) ≤ i) then 
    (bif decide (Int.toNat i < List.length ls) then 
     (bif okE (Ek.agg [Ek.bool, Ek.str, Ek.int IntKind.i64, Ek.int IntKind.i64, Ek.agg [Ek.int IntKind.i64, Ek.int IntKind.i64]]) (nthD ls (Int.toNat i)) then 
      (bif wri_pre (D.getB (nthD (D.getL (nthD ls (Int.toNat i))) 0)) (D.getS (nthD (D.getL (nthD ls (Int.toNat i))) 1)) then 
       (bif wri_v0 (D.getB (nthD (D.getL (nthD ls (Int.toNat i))) 0)) (D.getS (nthD (D.getL (nthD ls (Int.toNat i))) 1)) (D.getI (nthD (D.getL (nthD ls (Int.toNat i))) 2)) (D.getI (nthD (D.getL (nthD ls (Int.toNat i))) 3)) (D.getI (nthD (D.getL (nthD (D.getL (nthD ls (Int.toNat i))) 4)) 0)) (D.getI (nthD (D.getL (nthD (D.getL (nthD ls (Int.toNat i))) 4)) 1)) then K (Exit.ret) (mkF 19 [(4, AV.dat (D.int IntKind.i64 i))]) ([]) else K (Exit.normal) (mkF 19 [(0, AV.dat (D.slc (Sh.agg [Sh.one, Sh.one, Sh.one, Sh.one, Sh.agg [Sh.one, Sh.one]]) ls)), (1, AV.dat (D.fn (Fn.func 31) [] [])), (7, AV.dat (D.int IntKind.i64 n)), (8, AV.dat (D.int IntKind.i64 (IntKind.wrap IntKind.i64 (i + (1 : Int))))), (9, AV.dat (D.bool (decide (i < n)))), (18, AV.dat (D.int IntKind.i64 (IntKind.wrap IntKind.i64 (i + (1 : Int)))))]) ([])) else none) else none) else none) else none) else K (Exit.exit 0) (mkF 19 []) ([])) := by kernel_rfl
theorem iw_hr (lp : Loops) (ls : List D) (n : Int) : ∀ (sA : Int) (K : Kt) (N : Int → Option Res), (∀ sB fr' σ', cleanF (liveAt Try.f49 0) 0 fr' = iw_fr ls n sB → trim (0) (iw_fr ls n sB) σ' = iw_st ls n sB → K .normal fr' σ' = N sB) →
    oneRound (envOf tab ([(31, C_wri)]) [] lp []) Try.f49 0 (0) (iw_fr ls n sA) (iw_st ls n sA) K = (iw_step ls n sA).k (LK K N) := by
  intro i K N hN
  exact (iw_round lp ls n i K).trans (cong2 (cong2 (cong2 (cong2 (cong2 (cong2 rfl (hN (IntKind.wrap IntKind.i64 (i + (1 : Int))) _ _ (by kernel_rfl) (by kernel_rfl))) rfl) rfl) rfl) rfl) rfl)
theorem iw_enter (ls : List D) (n : Int) (i : Int) (fr : Frame') (hl : Nat.beq fr.length 19 = true) (g0 : fr.getD 0 .undef = AV.dat (D.slc (Sh.agg [Sh.one, Sh.one, Sh.one, Sh.one, Sh.agg [Sh.one, Sh.one]]) ls)) (g1 : fr.getD 1 .undef = AV.dat (D.fn (Fn.func 31) [] [])) (g7 : fr.getD 7 .undef = AV.dat (D.int IntKind.i64 n)) (g8 : fr.getD 8 .undef = AV.dat (D.int IntKind.i64 i)) : cleanF (liveAt Try.f49 0) 0 fr = iw_fr ls n i := by
  have e : liveAt Try.f49 0 = [7, 1, 0, 8] := by kernel_rfl
  rw [clean_mk (Nat.eq_of_beq_eq_true hl), e]
  show mkF 19 [(7, fr.getD 7 .undef), (1, fr.getD 1 .undef), (0, fr.getD 0 .undef), (8, fr.getD 8 .undef)] = _
  rw [g7, g1, g0, g8]
  kernel_rfl

def iw_idx  (ls : List D) : Int := bif ls.any ((fun d => wri_v0 (fU d) (fS d) (fK d) (fW d) (fA d) (fB d))) then ((ls.findIdx ((fun d => wri_v0 (fU d) (fS d) (fK d) (fW d) (fA d) (fB d))) : Nat) : Int) else -1
def iw_okL  (ls : List D) : Bool := ls.all ((fun d => okE (.agg [.bool, .str, .int .i64, .int .i64, .agg [.int .i64, .int .i64]]) d && wri_pre (fU d) (fS d))) && decide (ls.length ≤ 1099511627776)
theorem iw_closed (ls : List D) (n : Int)  (hc : (decide (n = (ls.length : Int)) && iw_okL  ls) = true) :
    ∃ m, (iterT (iw_step ls n ) m 0).run = T.run (.br (ls.any ((fun d => wri_v0 (fU d) (fS d) (fK d) (fW d) (fA d) (fB d)))) (.leaf (none, mkF 19 [(4, .dat (.int .i64 (ls.findIdx ((fun d => wri_v0 (fU d) (fS d) (fK d) (fW d) (fA d) (fB d))) : Nat)))], ([]))) (.leaf (some 0, mkF 19 [], ([])))) := by
  unfold iw_okL at hc
  simp only [Bool.and_eq_true, decide_eq_true_eq] at hc
  obtain ⟨rfl, h1, h2⟩ := hc
  obtain ⟨m, hm⟩ := iter_find (step := iw_step ls ls.length ) (ls := ls) (p := (fun d => wri_v0 (fU d) (fS d) (fK d) (fW d) (fA d) (fB d))) (o := fun k => (none, mkF 19 [(4, .dat (.int .i64 (k : Int)))], ([]))) (o' := (some 0, mkF 19 [], ([])))
    (fun k hk => by
      have hq := List.all_eq_true.1 h1 _ (nthD_mem hk)
      try simp only [Bool.and_eq_true] at hq
      unfold iw_step
      simp only [decide_eq_true (show (k : Int) < (ls.length : Int) by omega), decide_eq_true (show (0 : Int) ≤ (k : Int) by omega), Int.toNat_natCast, decide_eq_true hk, hq, wrap_succ (show k < 2 ^ 62 by omega), T.run_br, T.run_chk, T.run_leaf, cond_true]
      exact bif_some (((fun d => wri_v0 (fU d) (fS d) (fK d) (fW d) (fA d) (fB d))) (nthD ls k)) _ _)
    (by
      unfold iw_step
      rw [decide_eq_false (show ¬ (ls.length : Int) < (ls.length : Int) by omega)]
      rfl)
  refine ⟨m, hm.trans ?_⟩
  cases ls.any ((fun d => wri_v0 (fU d) (fS d) (fK d) (fW d) (fA d) (fB d))) <;> rfl

def L_iw : Frame' → Store → T (Exit × Frame' × Store) := fun fr σ => match fr.getD 0 .undef, fr.getD 1 .undef, fr.getD 7 .undef, fr.getD 8 .undef, σ with
  | AV.dat (D.slc (Sh.agg [Sh.one, Sh.one, Sh.one, Sh.one, Sh.agg [Sh.one, Sh.one]]) ls), AV.dat (D.fn (Fn.func 31) [] []), AV.dat (D.int IntKind.i64 n), AV.dat (D.int IntKind.i64 0), [] => .chk (Nat.beq fr.length 19 && (decide (n = (ls.length : Int)) && iw_okL  ls)) (T.bind (.br (ls.any ((fun d => wri_v0 (fU d) (fS d) (fK d) (fW d) (fA d) (fB d)))) (.leaf (none, mkF 19 [(4, .dat (.int .i64 (ls.findIdx ((fun d => wri_v0 (fU d) (fS d) (fK d) (fW d) (fA d) (fB d))) : Nat)))], ([]))) (.leaf (some 0, mkF 19 [], ([])))) fun o => .leaf (outEx o.1, o.2.1, o.2.2))
  | _, _, _, _, _ => .fail
theorem iw_sem (lp : Loops) : ∀ fr σ p, (L_iw fr σ).run = some p → ∀ (K : Kt) r, K p.1 p.2.1 p.2.2 = some r → ∃ n, loopRun (envOf tab ([(31, C_wri)]) [] lp []) Try.f49 0 σ.length n (cleanF (liveAt Try.f49 0) 0 fr) σ K = some r := by
  intro fr σ p h K r hK
  unfold L_iw at h
  split at h
  · rename_i ls n g0 g1 g7 g8
    obtain ⟨hc, h'⟩ := T.chk_some h
    rw [Bool.and_eq_true] at hc
    obtain ⟨hl, hc⟩ := hc
    obtain ⟨o, ho, h'⟩ := T.bind_some h'
    have hp := T.leaf_some h'
    subst hp
    obtain ⟨nF, hn⟩ : ∃ nF, (iterT (iw_step ls n) nF (0)).run = T.run (.br (ls.any ((fun d => wri_v0 (fU d) (fS d) (fK d) (fW d) (fA d) (fB d)))) (.leaf (none, mkF 19 [(4, .dat (.int .i64 (ls.findIdx ((fun d => wri_v0 (fU d) (fS d) (fK d) (fW d) (fA d) (fB d))) : Nat)))], ([]))) (.leaf (some 0, mkF 19 [], ([])))) := iw_closed ls n  hc
    rw [ho] at hn
    refine ⟨nF, ?_⟩
    have he : cleanF (liveAt Try.f49 0) 0 fr = iw_fr ls n (0) := iw_enter ls n _ fr hl g0 g1 g7 g8
    refine (iter_ok (base := 0) (iw_hr lp ls n) K nF (0) _ _ (by rw [clean_clean]; exact he) (by kernel_rfl)).trans ?_
    rw [T.k_run hn]
    exact hK
  · simp [T.run_fail] at h
theorem iw_loopOk (lp : Loops) (hk : Loops.get lp 2 = some L_iw) : LoopOk (envOf tab ([(31, C_wri)]) [] lp []) (loopAt Try.f49 0).1 (loopAt Try.f49 0).2 := loop_ok (L := L_iw) hk (iw_sem lp)


def S_iw : FunT := fun args σ => match args, σ with
  | [AV.dat (D.slc (Sh.agg [Sh.one, Sh.one, Sh.one, Sh.one, Sh.agg [Sh.one, Sh.one]]) ls), AV.dat (D.fn (Fn.func 31) [] [])], [] => 
    .chk (decide ((↑(List.length ls) : Int) = (↑(List.length ls) : Int)) && iw_okL ls) (.leaf ([AV.dat (D.int IntKind.i64 (bif List.any ls fun d => wri_v0 (fU d) (fS d) (fK d) (fW d) (fA d) (fB d) then (↑(List.findIdx (fun d => wri_v0 (fU d) (fS d) (fK d) (fW d) (fA d) (fB d)) ls) : Int) else (-1 : Int)))], []))
  | _, _ => .fail
theorem iw_raw0 (ls : List D) : runF (envOf tab ([(31, C_wri)]) [] [(2, L_iw)] []) true Try.f49 [.dat (.slc (.agg [.one, .one, .one, .one, .agg [.one, .one]]) ls), (.dat (.fn (.func 31) [] []))] ([]) =
  (bif decide ((↑(List.length ls) : Int) = (↑(List.length ls) : Int)) && iw_okL ls then 
   (bif List.any ls fun d => wri_v0 (fU d) (fS d) (fK d) (fW d) (fA d) (fB d) then some ([AV.dat (D.int IntKind.i64 (↑(List.findIdx (fun d => wri_v0 (fU d) (fS d) (fK d) (fW d) (fA d) (fB d)) ls) : Int))], []) else some ([AV.dat (D.int IntKind.i64 (-1 : Int))], [])) else none) := by kernel_rfl
theorem iw_case0 (ls : List D) : runF (envOf tab ([(31, C_wri)]) [] [(2, L_iw)] []) true Try.f49 [.dat (.slc (.agg [.one, .one, .one, .one, .agg [.one, .one]]) ls), (.dat (.fn (.func 31) [] []))] ([]) = FunT.run S_iw [.dat (.slc (.agg [.one, .one, .one, .one, .agg [.one, .one]]) ls), (.dat (.fn (.func 31) [] []))] ([]) := (iw_raw0 ls).trans (cong2 (cond_cases (fun h0 => (by (try rw [h0]) <;> rfl)) (fun h0 => (by (try rw [h0]) <;> rfl))) rfl)
theorem iw_ok : FunOk Try.prog 49 (FunT.run S_iw) := by
  refine fun_ok (E := envOf tab ([(31, C_wri)]) [] [(2, L_iw)] []) (fz := true) (fn := Try.f49) (envOf_ok progOk (.cons cwri_ok (.nil _))) (by kernel_rfl) (by kernel_rfl) (loops_one (by kernel_rfl) (iw_loopOk _ rfl)) ?_
  intro args σ r h
  unfold S_iw at h
  split at h
  · exact (iw_case0 _).trans h
  · simp [T.run_fail] at h

def C_iw : FunT := fun args σ => match args, σ with
  | [.dat (.slc (.agg [.one, .one, .one, .one, .agg [.one, .one]]) ls), (.dat (.fn (.func 31) [] []))], ([]) => .chk (iw_okL  ls) (.leaf ([.dat (.int .i64 (iw_idx  ls))], ([])))
  | _, _ => .fail
theorem ciw_ok : FunOk Try.prog 49 (FunT.run C_iw) := iw_ok.of (by
  intro args σ r h
  unfold C_iw at h
  split at h
  · rename_i ls 
    obtain ⟨hc, h'⟩ := T.chk_some h
    rw [← T.leaf_some h']
    unfold S_iw iw_idx
    simp only [hc, decide_true, Bool.and_true, T.run_chk, T.run_leaf, cond_true]
    all_goals (cases ls.any ((fun d => wri_v0 (fU d) (fS d) (fK d) (fW d) (fA d) (fB d))) <;> rfl)
  · simp [T.run_fail] at h)
def cfi_v0 (ls : List D) : Bool := decide (iw_idx ls ≥ (0 : Int))
def C_cfi : FunT := fun args σ => match args, σ with
  | [AV.dat (D.slc (Sh.agg [Sh.one, Sh.one, Sh.one, Sh.one, Sh.agg [Sh.one, Sh.one]]) ls), AV.dat (D.fn (Fn.func 31) [] [])], [] => .chk (iw_okL ls) (.leaf ([AV.dat (D.bool (cfi_v0 ls))], []))
  | _, _ => .fail
theorem cfi_raw0 (ls : List D) : runF (envOf tab [(49, C_iw)] [] [] []) true Try.f30 [.dat (.slc (.agg [.one, .one, .one, .one, .agg [.one, .one]]) ls), .dat (.fn (.func 31) [] [])] [] =
  (bif iw_okL ls then some ([AV.dat (D.bool (decide (iw_idx ls ≥ (0 : Int))))], []) else none) := by kernel_rfl
theorem cfi_case0 (ls : List D) : runF (envOf tab [(49, C_iw)] [] [] []) true Try.f30 [.dat (.slc (.agg [.one, .one, .one, .one, .agg [.one, .one]]) ls), .dat (.fn (.func 31) [] [])] [] = FunT.run C_cfi [.dat (.slc (.agg [.one, .one, .one, .one, .agg [.one, .one]]) ls), .dat (.fn (.func 31) [] [])] [] := (cfi_raw0 ls).trans (by
  show _ = (cond (iw_okL ls) (some (([AV.dat (D.bool (decide (iw_idx ls ≥ (0 : Int))))], []) : Res)) none)
  generalize (iw_okL ls) = z0
  cases z0 with
  | true =>
   rfl
  | false =>
   rfl
  )
theorem ccfi_ok : FunOk Try.prog 30 (FunT.run C_cfi) := by
  refine fun_ok (E := envOf tab [(49, C_iw)] [] [] []) (fz := true) (fn := Try.f30) (envOf_ok progOk (.cons ciw_ok (.nil _))) (by kernel_rfl) (by kernel_rfl) (loops_none (by kernel_rfl)) ?_
  intro args σ r h
  unfold C_cfi at h
  split at h
  · exact (cfi_case0 _).trans h
  · simp [T.run_fail] at h

def right_v0 (ls : List D) : Bool := !cfi_v0 ls
def C_right : FunT := fun args σ => match args, σ with
  | [AV.dat (D.slc (Sh.agg [Sh.one, Sh.one, Sh.one, Sh.one, Sh.agg [Sh.one, Sh.one]]) ls)], [] => .chk (iw_okL ls) (.leaf ([AV.dat (D.bool (right_v0 ls))], []))
  | _, _ => .fail
theorem right_raw0 (ls : List D) : runF (envOf tab [(30, C_cfi)] [] [] []) true Try.f6 [.dat (.slc (.agg [.one, .one, .one, .one, .agg [.one, .one]]) ls)] [] =
  (bif iw_okL ls then some ([AV.dat (D.bool !cfi_v0 ls)], []) else none) := by kernel_rfl
theorem right_case0 (ls : List D) : runF (envOf tab [(30, C_cfi)] [] [] []) true Try.f6 [.dat (.slc (.agg [.one, .one, .one, .one, .agg [.one, .one]]) ls)] [] = FunT.run C_right [.dat (.slc (.agg [.one, .one, .one, .one, .agg [.one, .one]]) ls)] [] := (right_raw0 ls).trans (by
  show _ = (cond (iw_okL ls) (some (([AV.dat (D.bool !cfi_v0 ls)], []) : Res)) none)
  generalize (iw_okL ls) = z0
  cases z0 with
  | true =>
   rfl
  | false =>
   rfl
  )
theorem cright_ok : FunOk Try.prog 6 (FunT.run C_right) := by
  refine fun_ok (E := envOf tab [(30, C_cfi)] [] [] []) (fz := true) (fn := Try.f6) (envOf_ok progOk (.cons ccfi_ok (.nil _))) (by kernel_rfl) (by kernel_rfl) (loops_none (by kernel_rfl)) ?_
  intro args σ r h
  unfold C_right at h
  split at h
  · exact (right_case0 _).trans h
  · simp [T.run_fail] at h

def C_itk : FunT := fun args σ => match args, σ with
  | [AV.dat (D.agg [D.bool u, D.str _, D.int IntKind.i64 _, D.int IntKind.i64 _, D.agg [D.int IntKind.i64 _, D.int IntKind.i64 _]])], [] => .leaf ([AV.dat (D.bool u)], [])
  | _, _ => .fail
theorem itk_raw0 (u : Bool) (s : ByteArray) (k w a b : Int) : runF (envOf tab [] [] [] []) true Try.f57 [.dat (.agg [.bool u, .str s, .int .i64 k, .int .i64 w, .agg [.int .i64 a, .int .i64 b]])] [] =some ([AV.dat (D.bool u)], []) := by kernel_rfl
theorem itk_case0 (u : Bool) (s : ByteArray) (k w a b : Int) : runF (envOf tab [] [] [] []) true Try.f57 [.dat (.agg [.bool u, .str s, .int .i64 k, .int .i64 w, .agg [.int .i64 a, .int .i64 b]])] [] = FunT.run C_itk [.dat (.agg [.bool u, .str s, .int .i64 k, .int .i64 w, .agg [.int .i64 a, .int .i64 b]])] [] := (itk_raw0 u s k w a b).trans (by
  show _ = some (([AV.dat (D.bool u)], []) : Res)
  rfl
  )
theorem citk_ok : FunOk Try.prog 57 (FunT.run C_itk) := by
  refine fun_ok (E := envOf tab [] [] [] []) (fz := true) (fn := Try.f57) (envOf_ok progOk (.nil _)) (by kernel_rfl) (by kernel_rfl) (loops_none (by kernel_rfl)) ?_
  intro args σ r h
  unfold C_itk at h
  split at h
  · exact (itk_case0 _ _ _ _ _ _).trans h
  · simp [T.run_fail] at h

abbrev irow (ds : List D) : Blk := ⟨.agg [.one, .one], false, false, .dat (.agg [.slc (.agg [.one, .one, .one, .one, .agg [.one, .one]]) ds, .fn (.func 57) [] []])⟩
theorem ic0  : runF (envOf tab [] [] [] []) true Try.f48 [.dat (.slc (.agg [.one, .one, .one, .one, .agg [.one, .one]]) [])] [] =some ([AV.dat (D.slc (Sh.agg [Sh.one, Sh.one, Sh.one, Sh.one, Sh.agg [Sh.one, Sh.one]]) [])], []) := by kernel_rfl
theorem ic1 (d : D) (ds : List D) : runF (envOf tab [] [] [] []) true Try.f48 [.dat (.slc (.agg [.one, .one, .one, .one, .agg [.one, .one]]) (d :: ds))] [] =
  (bif fits (Sh.agg [Sh.one, Sh.one, Sh.one, Sh.one, Sh.agg [Sh.one, Sh.one]]) (d :: ds) then 
   (bif decide (((0 : Nat) + List.length (d :: ds)) * 56 ≤ 35184372088832) then 
    (bif Nat.beq (List.length (d :: ds)) ((0 : Nat) + List.length (d :: ds)) then some ([AV.dat (D.slc (Sh.agg [Sh.one, Sh.one, Sh.one, Sh.one, Sh.agg [Sh.one, Sh.one]]) (seg (d :: ds) 0 ((0 : Nat) + List.length (d :: ds))))], []) else none) else none) else none) := by kernel_rfl
theorem icO1 (d : D) (ds : List D) : runF (envOf tab [] [] [] []) false Try.f48 [.dat (.slc (.agg [.one, .one, .one, .one, .agg [.one, .one]]) (d :: ds))] [] =
  (bif fits (Sh.agg [Sh.one, Sh.one, Sh.one, Sh.one, Sh.agg [Sh.one, Sh.one]]) (d :: ds) then 
   (bif decide (((0 : Nat) + List.length (d :: ds)) * 56 ≤ 35184372088832) then some ([AV.sref (Sh.agg [Sh.one, Sh.one, Sh.one, Sh.one, Sh.agg [Sh.one, Sh.one]]) 0 ((0 : Nat) + List.length (d :: ds)) [] 0 ((0 : Nat) + List.length (d :: ds))], [{ sh := Sh.arr (Sh.agg [Sh.one, Sh.one, Sh.one, Sh.one, Sh.agg [Sh.one, Sh.one]]) 0, dyn := true, frz := false, v := AV.dat (D.arr (Sh.agg [Sh.one, Sh.one, Sh.one, Sh.one, Sh.agg [Sh.one, Sh.one]]) (d :: ds)) }]) else none) else none) := by kernel_rfl
def S_ic : FunT := fun args σ => match args, σ with
  | [.dat (.slc (.agg [.one, .one, .one, .one, .agg [.one, .one]]) ds)], [] => .chk (fits (.agg [.one, .one, .one, .one, .agg [.one, .one]]) ds && decide (ds.length * 56 ≤ LIM)) (.leaf ([.dat (.slc (.agg [.one, .one, .one, .one, .agg [.one, .one]]) ds)], []))
  | _, _ => .fail
theorem ic_ok : FunOk Try.prog 48 (FunT.run S_ic) := by
  refine fun_ok (E := envOf tab [] [] [] []) (fz := true) (fn := Try.f48) (envOf_ok progOk (.nil _)) (by kernel_rfl) (by kernel_rfl) (loops_none (by kernel_rfl)) ?_
  intro args σ r h
  unfold S_ic at h
  split at h
  · rename_i ds
    obtain ⟨hc, h'⟩ := T.chk_some h
    rw [← T.leaf_some h']
    simp only [Bool.and_eq_true, decide_eq_true_eq] at hc
    cases ds with
    | nil => exact ic0
    | cons d ds =>
      rw [ic1, hc.1, Nat.zero_add, decide_eq_true (show (d :: ds).length * 56 ≤ 35184372088832 from hc.2), beq_self, seg_full]; rfl
  · simp [T.run_fail] at h
def S_icO : FunT := fun args σ => match args, σ with
  | [.dat (.slc (.agg [.one, .one, .one, .one, .agg [.one, .one]]) ds)], [] => .chk (!ds.isEmpty && fits (.agg [.one, .one, .one, .one, .agg [.one, .one]]) ds && decide (ds.length * 56 ≤ LIM)) (.leaf ([.sref (.agg [.one, .one, .one, .one, .agg [.one, .one]]) 0 ds.length [] 0 ds.length], [mkDyn (.agg [.one, .one, .one, .one, .agg [.one, .one]]) ds]))
  | _, _ => .fail
theorem icO_ok : FunOk Try.prog 48 (FunT.run S_icO) := by
  refine fun_ok (E := envOf tab [] [] [] []) (fz := false) (fn := Try.f48) (envOf_ok progOk (.nil _)) (by kernel_rfl) (by kernel_rfl) (loops_none (by kernel_rfl)) ?_
  intro args σ r h
  unfold S_icO at h
  split at h
  · rename_i ds
    obtain ⟨hc, h'⟩ := T.chk_some h
    rw [← T.leaf_some h']
    simp only [Bool.and_eq_true, decide_eq_true_eq] at hc
    cases ds with
    | nil => simp at hc
    | cons d ds => rw [icO1, hc.1.2, Nat.zero_add, decide_eq_true (show (d :: ds).length * 56 ≤ 35184372088832 from hc.2)]; rfl
  · simp [T.run_fail] at h
def C_icB : FunT := fun args σ => match args, σ with
  | [.dat (.slc (.agg [.one, .one, .one, .one, .agg [.one, .one]]) [])], [] => .leaf ([.dat (.slc (.agg [.one, .one, .one, .one, .agg [.one, .one]]) [])], [])
  | [.dat (.slc (.agg [.one, .one, .one, .one, .agg [.one, .one]]) (d :: ds))], [] => .chk (fits (.agg [.one, .one, .one, .one, .agg [.one, .one]]) (d :: ds) && decide ((d :: ds).length * 56 ≤ LIM)) (.leaf ([.sref (.agg [.one, .one, .one, .one, .agg [.one, .one]]) 0 (d :: ds).length [] 0 (d :: ds).length], [mkDyn (.agg [.one, .one, .one, .one, .agg [.one, .one]]) (d :: ds)]))
  | _, _ => .fail
theorem cicB_ok : FunOk Try.prog 48 (FunT.run C_icB) := by
  intro w S m σ args vals res σ' hi hv hr
  unfold FunT.run C_icB at hr
  split at hr
  · exact ic_ok w S m _ _ vals res σ' hi hv hr
  · refine icO_ok w S m _ _ vals res σ' hi hv ?_
    exact hr
  · simp [T.run_fail] at hr
def iof_pre (ds : List D) : Bool := fits (Sh.agg [Sh.one, Sh.one, Sh.one, Sh.one, Sh.agg [Sh.one, Sh.one]]) ds && decide (List.length ds * 56 ≤ 35184372088832)
def C_iof : FunT := fun args σ => match args, σ with
  | [AV.dat (D.slc (Sh.agg [Sh.one, Sh.one, Sh.one, Sh.one, Sh.agg [Sh.one, Sh.one]]) ds), AV.dat (D.fn (Fn.func f) [] [])], [] => .chk ((iof_pre ds)) (.leaf ([AV.ptr (Sh.agg [Sh.one, Sh.one]) 0 0 []], [{ sh := Sh.agg [Sh.one, Sh.one], dyn := false, frz := false, v := AV.dat (D.agg [D.slc (Sh.agg [Sh.one, Sh.one, Sh.one, Sh.one, Sh.agg [Sh.one, Sh.one]]) ds, D.fn (Fn.func f) [] []]) }]))
  | _, _ => .fail
theorem iof_raw0 (ds : List D) (f : FuncId) : runF (envOf tab [(48, S_ic)] [] [] []) false Try.f56 [.dat (.slc (.agg [.one, .one, .one, .one, .agg [.one, .one]]) ds), .dat (.fn (.func f) [] [])] [] =
  (bif fits (Sh.agg [Sh.one, Sh.one, Sh.one, Sh.one, Sh.agg [Sh.one, Sh.one]]) ds && decide (List.length ds * 56 ≤ 35184372088832) then some ([AV.ptr (Sh.agg [Sh.one, Sh.one]) 0 0 []], [{ sh := Sh.agg [Sh.one, Sh.one], dyn := false, frz := false, v := AV.dat (D.agg [D.slc (Sh.agg [Sh.one, Sh.one, Sh.one, Sh.one, Sh.agg [Sh.one, Sh.one]]) ds, D.fn (Fn.func f) [] []]) }]) else none) := by kernel_rfl
theorem iof_case0 (ds : List D) (f : FuncId) : runF (envOf tab [(48, S_ic)] [] [] []) false Try.f56 [.dat (.slc (.agg [.one, .one, .one, .one, .agg [.one, .one]]) ds), .dat (.fn (.func f) [] [])] [] = FunT.run C_iof [.dat (.slc (.agg [.one, .one, .one, .one, .agg [.one, .one]]) ds), .dat (.fn (.func f) [] [])] [] := (iof_raw0 ds f).trans (by
  show _ = (cond (fits (Sh.agg [Sh.one, Sh.one, Sh.one, Sh.one, Sh.agg [Sh.one, Sh.one]]) ds && decide (List.length ds * 56 ≤ 35184372088832)) (some (([AV.ptr (Sh.agg [Sh.one, Sh.one]) 0 0 []], [{ sh := Sh.agg [Sh.one, Sh.one], dyn := false, frz := false, v := AV.dat (D.agg [D.slc (Sh.agg [Sh.one, Sh.one, Sh.one, Sh.one, Sh.agg [Sh.one, Sh.one]]) ds, D.fn (Fn.func f) [] []]) }]) : Res)) none)
  generalize (fits (Sh.agg [Sh.one, Sh.one, Sh.one, Sh.one, Sh.agg [Sh.one, Sh.one]]) ds && decide (List.length ds * 56 ≤ 35184372088832)) = z0
  cases z0 with
  | true =>
   rfl
  | false =>
   rfl
  )
theorem ciof_ok : FunOk Try.prog 56 (FunT.run C_iof) := by
  refine fun_ok (E := envOf tab [(48, S_ic)] [] [] []) (fz := false) (fn := Try.f56) (envOf_ok progOk (.cons ic_ok (.nil _))) (by kernel_rfl) (by kernel_rfl) (loops_none (by kernel_rfl)) ?_
  intro args σ r h
  unfold C_iof at h
  split at h
  · exact (iof_case0 _ _).trans h
  · simp [T.run_fail] at h

def C_irw : FunT := fun args σ => match args, σ with
  | [AV.dat (D.slc (Sh.agg [Sh.one, Sh.one, Sh.one, Sh.one, Sh.agg [Sh.one, Sh.one]]) ds)], [] => .chk (iof_pre ds) (.leaf ([AV.ptr (Sh.agg [Sh.one, Sh.one]) 0 0 []], [{ sh := Sh.agg [Sh.one, Sh.one], dyn := false, frz := false, v := AV.dat (D.agg [D.slc (Sh.agg [Sh.one, Sh.one, Sh.one, Sh.one, Sh.agg [Sh.one, Sh.one]]) ds, D.fn (Fn.func 57) [] []]) }]))
  | _, _ => .fail
theorem irw_raw0 (ds : List D) : runF (envOf tab [(56, C_iof)] [] [] []) false Try.f37 [.dat (.slc (.agg [.one, .one, .one, .one, .agg [.one, .one]]) ds)] [] =
  (bif iof_pre ds then some ([AV.ptr (Sh.agg [Sh.one, Sh.one]) 0 0 []], [{ sh := Sh.agg [Sh.one, Sh.one], dyn := false, frz := false, v := AV.dat (D.agg [D.slc (Sh.agg [Sh.one, Sh.one, Sh.one, Sh.one, Sh.agg [Sh.one, Sh.one]]) ds, D.fn (Fn.func 57) [] []]) }]) else none) := by kernel_rfl
theorem irw_case0 (ds : List D) : runF (envOf tab [(56, C_iof)] [] [] []) false Try.f37 [.dat (.slc (.agg [.one, .one, .one, .one, .agg [.one, .one]]) ds)] [] = FunT.run C_irw [.dat (.slc (.agg [.one, .one, .one, .one, .agg [.one, .one]]) ds)] [] := (irw_raw0 ds).trans (by
  show _ = (cond (iof_pre ds) (some (([AV.ptr (Sh.agg [Sh.one, Sh.one]) 0 0 []], [{ sh := Sh.agg [Sh.one, Sh.one], dyn := false, frz := false, v := AV.dat (D.agg [D.slc (Sh.agg [Sh.one, Sh.one, Sh.one, Sh.one, Sh.agg [Sh.one, Sh.one]]) ds, D.fn (Fn.func 57) [] []]) }]) : Res)) none)
  generalize (iof_pre ds) = z0
  cases z0 with
  | true =>
   rfl
  | false =>
   rfl
  )
theorem cirw_ok : FunOk Try.prog 37 (FunT.run C_irw) := by
  refine fun_ok (E := envOf tab [(56, C_iof)] [] [] []) (fz := false) (fn := Try.f37) (envOf_ok progOk (.cons ciof_ok (.nil _))) (by kernel_rfl) (by kernel_rfl) (loops_none (by kernel_rfl)) ?_
  intro args σ r h
  unfold C_irw at h
  split at h
  · exact (irw_case0 _).trans h
  · simp [T.run_fail] at h

def C_imd : FunT := fun args σ => match args, σ with
  | [AV.ptr (Sh.agg [Sh.one, Sh.one]) 0 0 []], [{ sh := Sh.agg [Sh.one, Sh.one], dyn := false, frz := false, v := AV.dat (D.agg [D.slc (Sh.agg [Sh.one, Sh.one, Sh.one, Sh.one, Sh.agg [Sh.one, Sh.one]]) ds, D.fn (Fn.func 57) [] []]) }] => .leaf ([AV.dat (D.bool true)], [{ sh := Sh.agg [Sh.one, Sh.one], dyn := false, frz := false, v := AV.dat (D.agg [D.slc (Sh.agg [Sh.one, Sh.one, Sh.one, Sh.one, Sh.agg [Sh.one, Sh.one]]) ds, D.fn (Fn.func 57) [] []]) }])
  | _, _ => .fail
theorem imd_raw0 (ds : List D) : runF (envOf tab [] [] [] []) true Try.f60 [.ptr (.agg [.one, .one]) 0 0 []] [irow ds] =some ([AV.dat (D.bool true)], [{ sh := Sh.agg [Sh.one, Sh.one], dyn := false, frz := false, v := AV.dat (D.agg [D.slc (Sh.agg [Sh.one, Sh.one, Sh.one, Sh.one, Sh.agg [Sh.one, Sh.one]]) ds, D.fn (Fn.func 57) [] []]) }]) := by kernel_rfl
theorem imd_case0 (ds : List D) : runF (envOf tab [] [] [] []) true Try.f60 [.ptr (.agg [.one, .one]) 0 0 []] [irow ds] = FunT.run C_imd [.ptr (.agg [.one, .one]) 0 0 []] [irow ds] := (imd_raw0 ds).trans (by
  show _ = some (([AV.dat (D.bool true)], [{ sh := Sh.agg [Sh.one, Sh.one], dyn := false, frz := false, v := AV.dat (D.agg [D.slc (Sh.agg [Sh.one, Sh.one, Sh.one, Sh.one, Sh.agg [Sh.one, Sh.one]]) ds, D.fn (Fn.func 57) [] []]) }]) : Res)
  rfl
  )
theorem cimd_ok : FunOk Try.prog 60 (FunT.run C_imd) := by
  refine fun_ok (E := envOf tab [] [] [] []) (fz := true) (fn := Try.f60) (envOf_ok progOk (.nil _)) (by kernel_rfl) (by kernel_rfl) (loops_none (by kernel_rfl)) ?_
  intro args σ r h
  unfold C_imd at h
  split at h
  · exact (imd_case0 _).trans h
  · simp [T.run_fail] at h

def ifr_v0 (u : Bool) : Bool := !u
def C_ifr : FunT := fun args σ => match args, σ with
  | [AV.dat (D.agg [D.bool u, D.str _, D.int IntKind.i64 _, D.int IntKind.i64 _, D.agg [D.int IntKind.i64 _, D.int IntKind.i64 _]]), AV.ptr Sh.one 0 0 []], [{ sh := Sh.one, dyn := false, frz := false, v := AV.ptr (Sh.agg [Sh.one, Sh.one]) 1 0 [] }, { sh := Sh.agg [Sh.one, Sh.one], dyn := false, frz := false, v := AV.dat (D.agg [D.slc (Sh.agg [Sh.one, Sh.one, Sh.one, Sh.one, Sh.agg [Sh.one, Sh.one]]) ds, D.fn (Fn.func 57) [] []]) }] => .leaf ([AV.dat (D.bool (ifr_v0 u))], [{ sh := Sh.one, dyn := false, frz := false, v := AV.ptr (Sh.agg [Sh.one, Sh.one]) 1 0 [] }, { sh := Sh.agg [Sh.one, Sh.one], dyn := false, frz := false, v := AV.dat (D.agg [D.slc (Sh.agg [Sh.one, Sh.one, Sh.one, Sh.one, Sh.agg [Sh.one, Sh.one]]) ds, D.fn (Fn.func 57) [] []]) }])
  | _, _ => .fail
theorem ifr_raw0 (u : Bool) (s : ByteArray) (k w a b : Int) (ds : List D) : runF (envOf tab [(57, C_itk)] [] [] []) true Try.f63 [.dat (.agg [.bool u, .str s, .int .i64 k, .int .i64 w, .agg [.int .i64 a, .int .i64 b]]), .ptr .one 0 0 []] [⟨.one, false, false, .ptr (.agg [.one, .one]) 1 0 []⟩, irow ds] =some ([AV.dat (D.bool !u)], [{ sh := Sh.one, dyn := false, frz := false, v := AV.ptr (Sh.agg [Sh.one, Sh.one]) 1 0 [] }, { sh := Sh.agg [Sh.one, Sh.one], dyn := false, frz := false, v := AV.dat (D.agg [D.slc (Sh.agg [Sh.one, Sh.one, Sh.one, Sh.one, Sh.agg [Sh.one, Sh.one]]) ds, D.fn (Fn.func 57) [] []]) }]) := by kernel_rfl
theorem ifr_case0 (u : Bool) (s : ByteArray) (k w a b : Int) (ds : List D) : runF (envOf tab [(57, C_itk)] [] [] []) true Try.f63 [.dat (.agg [.bool u, .str s, .int .i64 k, .int .i64 w, .agg [.int .i64 a, .int .i64 b]]), .ptr .one 0 0 []] [⟨.one, false, false, .ptr (.agg [.one, .one]) 1 0 []⟩, irow ds] = FunT.run C_ifr [.dat (.agg [.bool u, .str s, .int .i64 k, .int .i64 w, .agg [.int .i64 a, .int .i64 b]]), .ptr .one 0 0 []] [⟨.one, false, false, .ptr (.agg [.one, .one]) 1 0 []⟩, irow ds] := (ifr_raw0 u s k w a b ds).trans (by
  show _ = some (([AV.dat (D.bool !u)], [{ sh := Sh.one, dyn := false, frz := false, v := AV.ptr (Sh.agg [Sh.one, Sh.one]) 1 0 [] }, { sh := Sh.agg [Sh.one, Sh.one], dyn := false, frz := false, v := AV.dat (D.agg [D.slc (Sh.agg [Sh.one, Sh.one, Sh.one, Sh.one, Sh.agg [Sh.one, Sh.one]]) ds, D.fn (Fn.func 57) [] []]) }]) : Res)
  rfl
  )
theorem cifr_ok : FunOk Try.prog 63 (FunT.run C_ifr) := by
  refine fun_ok (E := envOf tab [(57, C_itk)] [] [] []) (fz := true) (fn := Try.f63) (envOf_ok progOk (.cons citk_ok (.nil _))) (by kernel_rfl) (by kernel_rfl) (loops_none (by kernel_rfl)) ?_
  intro args σ r h
  unfold C_ifr at h
  split at h
  · exact (ifr_case0 _ _ _ _ _ _ _).trans h
  · simp [T.run_fail] at h

def ij_fr (ls : List D) (n : Int) (_ : List D) : Int → Frame' := fun i => mkF 19 [(0, .dat (.slc (.agg [.one, .one, .one, .one, .agg [.one, .one]]) ls)), (1, (.fn (.func 63) [] [.ptr .one 0 0 []])), (7, .dat (.int .i64 n)), (8, .dat (.int .i64 i))]
def ij_st (_ : List D) (_ : Int) (ds : List D) : Int → Store := fun _ => ([⟨.one, false, false, .ptr (.agg [.one, .one]) 1 0 []⟩, ⟨.agg [.one, .one], false, false, .dat (.agg [.slc (.agg [.one, .one, .one, .one, .agg [.one, .one]]) ds, .fn (.func 57) [] []])⟩])
def ij_step (ls : List D) (n : Int) (ds : List D) : Int → T (Int ⊕ LOut) := fun i => 
  .br (decide (i < n)) (
   .chk (decide ((0 : Int) ≤ i)) (
    .chk (decide (Int.toNat i < List.length ls)) (
     .chk (okE (Ek.agg [Ek.bool, Ek.str, Ek.int IntKind.i64, Ek.int IntKind.i64, Ek.agg [Ek.int IntKind.i64, Ek.int IntKind.i64]]) (nthD ls (Int.toNat i))) (
      .br (ifr_v0 (D.getB (nthD (D.getL (nthD ls (Int.toNat i))) 0))) (.leaf (.inr (none, mkF 19 [(4, AV.dat (D.int IntKind.i64 i))], [{ sh := Sh.one, dyn := false, frz := false, v := AV.ptr (Sh.agg [Sh.one, Sh.one]) 1 0 [] }, { sh := Sh.agg [Sh.one, Sh.one], dyn := false, frz := false, v := AV.dat (D.agg [D.slc (Sh.agg [Sh.one, Sh.one, Sh.one, Sh.one, Sh.agg [Sh.one, Sh.one]]) ds, D.fn (Fn.func 57) [] []]) }]))) (.leaf (.inl (IntKind.wrap IntKind.i64 (i + (1 : Int))))))))) (.leaf (.inr ((some 0), mkF 19 [], [{ sh := Sh.one, dyn := false, frz := false, v := AV.ptr (Sh.agg [Sh.one, Sh.one]) 1 0 [] }, { sh := Sh.agg [Sh.one, Sh.one], dyn := false, frz := false, v := AV.dat (D.agg [D.slc (Sh.agg [Sh.one, Sh.one, Sh.one, Sh.one, Sh.agg [Sh.one, Sh.one]]) ds, D.fn (Fn.func 57) [] []]) }])))
theorem ij_round (lp : Loops) (ls : List D) (n : Int) (ds : List D) (i : Int) (K : Kt) : oneRound (envOf tab ([(63, C_ifr)]) [] lp []) Try.f49 0 (2) (mkF 19 [(0, .dat (.slc (.agg [.one, .one, .one, .one, .agg [.one, .one]]) ls)), (1, (.fn (.func 63) [] [.ptr .one 0 0 []])), (7, .dat (.int .i64 n)), (8, .dat (.int .i64 i))]) (([⟨.one, false, false, .ptr (.agg [.one, .one]) 1 0 []⟩, ⟨.agg [.one, .one], false, false, .dat (.agg [.slc (.agg [.one, .one, .one, .one, .agg [.one, .one]]) ds, .fn (.func 57) [] []])⟩])) K =
  (bif decide (i < n) then 
   (bif decide ((0 : Int) ≤ i) then 
    (bif decide (Int.toNat i < List.length ls) then 
     (bif okE (Ek.agg [Ek.bool, Ek.str, Ek.int IntKind.i64, Ek.int IntKind.i64, Ek.agg [Ek.int IntKind.i64, Ek.int IntKind.i64]]) (nthD ls (Int.toNat i)) then 
      (bif ifr_v0 (D.getB (nthD (D.getL (nthD ls (Int.toNat i))) 0)) then K (Exit.ret) (mkF 19 [(4, AV.dat (D.int IntKind.i64 i))]) ([{ sh := Sh.one, dyn := false, frz := false, v := AV.ptr (Sh.agg [Sh.one, Sh.one]) 1 0 [] }, { sh := Sh.agg [Sh.one, Sh.one], dyn := false, frz := false, v := AV.dat (D.agg [D.slc (Sh.agg [Sh.one, Sh.one, Sh.one, Sh.one, Sh.agg [Sh.one, Sh.one]]) ds, D.fn (Fn.func 57) [] []]) }]) else K (Exit.normal) (mkF 19 [(0, AV.dat (D.slc (Sh.agg [Sh.one, Sh.one, Sh.one, Sh.one, Sh.agg [Sh.one, Sh.one]]) ls)), (1, AV.fn (Fn.func 63) [] [AV.ptr Sh.one 0 0 []]), (7, AV.dat (D.int IntKind.i64 n)), (8, AV.dat (D.int IntKind.i64 (IntKind.wrap IntKind.i64 (i + (1 : Int))))), (9, AV.dat (D.bool (decide (i < n)))), (18, AV.dat (D.int IntKind.i64 (IntKind.wrap IntKind.i64 (i + (1 : Int)))))]) ([{ sh := Sh.one, dyn := false, frz := false, v := AV.ptr (Sh.agg [Sh.one, Sh.one]) 1 0 [] }, { sh := Sh.agg [Sh.one, Sh.one], dyn := false, frz := false, v := AV.dat (D.agg [D.slc (Sh.agg [Sh.one, Sh.one, Sh.one, Sh.one, Sh.agg [Sh.one, Sh.one]]) ds, D.fn (Fn.func 57) [] []]) }])) else none) else none) else none) else K (Exit.exit 0) (mkF 19 []) ([{ sh := Sh.one, dyn := false, frz := false, v := AV.ptr (Sh.agg [Sh.one, Sh.one]) 1 0 [] }, { sh := Sh.agg [Sh.one, Sh.one], dyn := false, frz := false, v := AV.dat (D.agg [D.slc (Sh.agg [Sh.one, Sh.one, Sh.one, Sh.one, Sh.agg [Sh.one, Sh.one]]) ds, D.fn (Fn.func 57) [] []]) }])) := by kernel_rfl
theorem ij_hr (lp : Loops) (ls : List D) (n : Int) (ds : List D) : ∀ (sA : Int) (K : Kt) (N : Int → Option Res), (∀ sB fr' σ', cleanF (liveAt Try.f49 0) 0 fr' = ij_fr ls n ds sB → trim (2) (ij_fr ls n ds sB) σ' = ij_st ls n ds sB → K .normal fr' σ' = N sB) →
    oneRound (envOf tab ([(63, C_ifr)]) [] lp []) Try.f49 0 (2) (ij_fr ls n ds sA) (ij_st ls n ds sA) K = (ij_step ls n ds sA).k (LK K N) := by
  intro i K N hN
  exact (ij_round lp ls n ds i K).trans (cong2 (cong2 (cong2 (cong2 (cong2 rfl (hN (IntKind.wrap IntKind.i64 (i + (1 : Int))) _ _ (by kernel_rfl) (by kernel_rfl))) rfl) rfl) rfl) rfl)
theorem ij_enter (ls : List D) (n : Int) (ds : List D) (i : Int) (fr : Frame') (hl : Nat.beq fr.length 19 = true) (g0 : fr.getD 0 .undef = AV.dat (D.slc (Sh.agg [Sh.one, Sh.one, Sh.one, Sh.one, Sh.agg [Sh.one, Sh.one]]) ls)) (g1 : fr.getD 1 .undef = AV.fn (Fn.func 63) [] [AV.ptr Sh.one 0 0 []]) (g7 : fr.getD 7 .undef = AV.dat (D.int IntKind.i64 n)) (g8 : fr.getD 8 .undef = AV.dat (D.int IntKind.i64 i)) : cleanF (liveAt Try.f49 0) 0 fr = ij_fr ls n ds i := by
  have e : liveAt Try.f49 0 = [7, 1, 0, 8] := by kernel_rfl
  rw [clean_mk (Nat.eq_of_beq_eq_true hl), e]
  show mkF 19 [(7, fr.getD 7 .undef), (1, fr.getD 1 .undef), (0, fr.getD 0 .undef), (8, fr.getD 8 .undef)] = _
  rw [g7, g1, g0, g8]
  kernel_rfl

def ij_idx (_ : List D) (ls : List D) : Int := bif ls.any ((fun d => !D.getB (nthD (D.getL d) 0))) then ((ls.findIdx ((fun d => !D.getB (nthD (D.getL d) 0))) : Nat) : Int) else -1
def ij_okL (_ : List D) (ls : List D) : Bool := ls.all ((okE (.agg [.bool, .str, .int .i64, .int .i64, .agg [.int .i64, .int .i64]]))) && decide (ls.length ≤ 1099511627776)
theorem ij_closed (ls : List D) (n : Int) (ds : List D) (hc : (decide (n = (ls.length : Int)) && ij_okL ds ls) = true) :
    ∃ m, (iterT (ij_step ls n ds) m 0).run = T.run (.br (ls.any ((fun d => !D.getB (nthD (D.getL d) 0)))) (.leaf (none, mkF 19 [(4, .dat (.int .i64 (ls.findIdx ((fun d => !D.getB (nthD (D.getL d) 0))) : Nat)))], ([⟨.one, false, false, .ptr (.agg [.one, .one]) 1 0 []⟩, ⟨.agg [.one, .one], false, false, .dat (.agg [.slc (.agg [.one, .one, .one, .one, .agg [.one, .one]]) ds, .fn (.func 57) [] []])⟩]))) (.leaf (some 0, mkF 19 [], ([⟨.one, false, false, .ptr (.agg [.one, .one]) 1 0 []⟩, ⟨.agg [.one, .one], false, false, .dat (.agg [.slc (.agg [.one, .one, .one, .one, .agg [.one, .one]]) ds, .fn (.func 57) [] []])⟩])))) := by
  unfold ij_okL at hc
  simp only [Bool.and_eq_true, decide_eq_true_eq] at hc
  obtain ⟨rfl, h1, h2⟩ := hc
  obtain ⟨m, hm⟩ := iter_find (step := ij_step ls ls.length ds) (ls := ls) (p := (fun d => !D.getB (nthD (D.getL d) 0))) (o := fun k => (none, mkF 19 [(4, .dat (.int .i64 (k : Int)))], ([⟨.one, false, false, .ptr (.agg [.one, .one]) 1 0 []⟩, ⟨.agg [.one, .one], false, false, .dat (.agg [.slc (.agg [.one, .one, .one, .one, .agg [.one, .one]]) ds, .fn (.func 57) [] []])⟩]))) (o' := (some 0, mkF 19 [], ([⟨.one, false, false, .ptr (.agg [.one, .one]) 1 0 []⟩, ⟨.agg [.one, .one], false, false, .dat (.agg [.slc (.agg [.one, .one, .one, .one, .agg [.one, .one]]) ds, .fn (.func 57) [] []])⟩])))
    (fun k hk => by
      have hq := List.all_eq_true.1 h1 _ (nthD_mem hk)
      try simp only [Bool.and_eq_true] at hq
      unfold ij_step
      simp only [decide_eq_true (show (k : Int) < (ls.length : Int) by omega), decide_eq_true (show (0 : Int) ≤ (k : Int) by omega), Int.toNat_natCast, decide_eq_true hk, hq, wrap_succ (show k < 2 ^ 62 by omega), T.run_br, T.run_chk, T.run_leaf, cond_true]
      exact bif_some (((fun d => !D.getB (nthD (D.getL d) 0))) (nthD ls k)) _ _)
    (by
      unfold ij_step
      rw [decide_eq_false (show ¬ (ls.length : Int) < (ls.length : Int) by omega)]
      rfl)
  refine ⟨m, hm.trans ?_⟩
  cases ls.any ((fun d => !D.getB (nthD (D.getL d) 0))) <;> rfl

def L_ij : Frame' → Store → T (Exit × Frame' × Store) := fun fr σ => match fr.getD 0 .undef, fr.getD 1 .undef, fr.getD 7 .undef, fr.getD 8 .undef, σ with
  | AV.dat (D.slc (Sh.agg [Sh.one, Sh.one, Sh.one, Sh.one, Sh.agg [Sh.one, Sh.one]]) ls), AV.fn (Fn.func 63) [] [AV.ptr Sh.one 0 0 []], AV.dat (D.int IntKind.i64 n), AV.dat (D.int IntKind.i64 0), [{ sh := Sh.one, dyn := false, frz := false, v := AV.ptr (Sh.agg [Sh.one, Sh.one]) 1 0 [] }, { sh := Sh.agg [Sh.one, Sh.one], dyn := false, frz := false, v := AV.dat (D.agg [D.slc (Sh.agg [Sh.one, Sh.one, Sh.one, Sh.one, Sh.agg [Sh.one, Sh.one]]) ds, D.fn (Fn.func 57) [] []]) }] => .chk (Nat.beq fr.length 19 && (decide (n = (ls.length : Int)) && ij_okL ds ls)) (T.bind (.br (ls.any ((fun d => !D.getB (nthD (D.getL d) 0)))) (.leaf (none, mkF 19 [(4, .dat (.int .i64 (ls.findIdx ((fun d => !D.getB (nthD (D.getL d) 0))) : Nat)))], ([⟨.one, false, false, .ptr (.agg [.one, .one]) 1 0 []⟩, ⟨.agg [.one, .one], false, false, .dat (.agg [.slc (.agg [.one, .one, .one, .one, .agg [.one, .one]]) ds, .fn (.func 57) [] []])⟩]))) (.leaf (some 0, mkF 19 [], ([⟨.one, false, false, .ptr (.agg [.one, .one]) 1 0 []⟩, ⟨.agg [.one, .one], false, false, .dat (.agg [.slc (.agg [.one, .one, .one, .one, .agg [.one, .one]]) ds, .fn (.func 57) [] []])⟩])))) fun o => .leaf (outEx o.1, o.2.1, o.2.2))
  | _, _, _, _, _ => .fail
theorem ij_sem (lp : Loops) : ∀ fr σ p, (L_ij fr σ).run = some p → ∀ (K : Kt) r, K p.1 p.2.1 p.2.2 = some r → ∃ n, loopRun (envOf tab ([(63, C_ifr)]) [] lp []) Try.f49 0 σ.length n (cleanF (liveAt Try.f49 0) 0 fr) σ K = some r := by
  intro fr σ p h K r hK
  unfold L_ij at h
  split at h
  · rename_i ls n ds g0 g1 g7 g8
    obtain ⟨hc, h'⟩ := T.chk_some h
    rw [Bool.and_eq_true] at hc
    obtain ⟨hl, hc⟩ := hc
    obtain ⟨o, ho, h'⟩ := T.bind_some h'
    have hp := T.leaf_some h'
    subst hp
    obtain ⟨nF, hn⟩ : ∃ nF, (iterT (ij_step ls n ds) nF (0)).run = T.run (.br (ls.any ((fun d => !D.getB (nthD (D.getL d) 0)))) (.leaf (none, mkF 19 [(4, .dat (.int .i64 (ls.findIdx ((fun d => !D.getB (nthD (D.getL d) 0))) : Nat)))], ([⟨.one, false, false, .ptr (.agg [.one, .one]) 1 0 []⟩, ⟨.agg [.one, .one], false, false, .dat (.agg [.slc (.agg [.one, .one, .one, .one, .agg [.one, .one]]) ds, .fn (.func 57) [] []])⟩]))) (.leaf (some 0, mkF 19 [], ([⟨.one, false, false, .ptr (.agg [.one, .one]) 1 0 []⟩, ⟨.agg [.one, .one], false, false, .dat (.agg [.slc (.agg [.one, .one, .one, .one, .agg [.one, .one]]) ds, .fn (.func 57) [] []])⟩])))) := ij_closed ls n ds hc
    rw [ho] at hn
    refine ⟨nF, ?_⟩
    have he : cleanF (liveAt Try.f49 0) 0 fr = ij_fr ls n ds (0) := ij_enter ls n ds _ fr hl g0 g1 g7 g8
    refine (iter_ok (base := 2) (ij_hr lp ls n ds) K nF (0) _ _ (by rw [clean_clean]; exact he) (by kernel_rfl)).trans ?_
    rw [T.k_run hn]
    exact hK
  · simp [T.run_fail] at h
theorem ij_loopOk (lp : Loops) (hk : Loops.get lp 2 = some L_ij) : LoopOk (envOf tab ([(63, C_ifr)]) [] lp []) (loopAt Try.f49 0).1 (loopAt Try.f49 0).2 := loop_ok (L := L_ij) hk (ij_sem lp)


def S_ij : FunT := fun args σ => match args, σ with
  | [AV.dat (D.slc (Sh.agg [Sh.one, Sh.one, Sh.one, Sh.one, Sh.agg [Sh.one, Sh.one]]) ls), AV.fn (Fn.func 63) [] [AV.ptr Sh.one 0 0 []]], [{ sh := Sh.one, dyn := false, frz := false, v := AV.ptr (Sh.agg [Sh.one, Sh.one]) 1 0 [] }, { sh := Sh.agg [Sh.one, Sh.one], dyn := false, frz := false, v := AV.dat (D.agg [D.slc (Sh.agg [Sh.one, Sh.one, Sh.one, Sh.one, Sh.agg [Sh.one, Sh.one]]) ds, D.fn (Fn.func 57) [] []]) }] => 
    .chk (decide ((↑(List.length ls) : Int) = (↑(List.length ls) : Int)) && ij_okL ds ls) (.leaf ([AV.dat (D.int IntKind.i64 (bif List.any ls fun d => !D.getB (nthD (D.getL d) 0) then (↑(List.findIdx (fun d => !D.getB (nthD (D.getL d) 0)) ls) : Int) else (-1 : Int)))], [{ sh := Sh.one, dyn := false, frz := false, v := AV.ptr (Sh.agg [Sh.one, Sh.one]) 1 0 [] }, { sh := Sh.agg [Sh.one, Sh.one], dyn := false, frz := false, v := AV.dat (D.agg [D.slc (Sh.agg [Sh.one, Sh.one, Sh.one, Sh.one, Sh.agg [Sh.one, Sh.one]]) ds, D.fn (Fn.func 57) [] []]) }]))
  | _, _ => .fail
theorem ij_raw0 (ls : List D) (ds : List D) : runF (envOf tab ([(63, C_ifr)]) [] [(2, L_ij)] []) true Try.f49 [.dat (.slc (.agg [.one, .one, .one, .one, .agg [.one, .one]]) ls), (.fn (.func 63) [] [.ptr .one 0 0 []])] ([⟨.one, false, false, .ptr (.agg [.one, .one]) 1 0 []⟩, ⟨.agg [.one, .one], false, false, .dat (.agg [.slc (.agg [.one, .one, .one, .one, .agg [.one, .one]]) ds, .fn (.func 57) [] []])⟩]) =
  (bif decide ((↑(List.length ls) : Int) = (↑(List.length ls) : Int)) && ij_okL ds ls then 
   (bif List.any ls fun d => !D.getB (nthD (D.getL d) 0) then some ([AV.dat (D.int IntKind.i64 (↑(List.findIdx (fun d => !D.getB (nthD (D.getL d) 0)) ls) : Int))], [{ sh := Sh.one, dyn := false, frz := false, v := AV.ptr (Sh.agg [Sh.one, Sh.one]) 1 0 [] }, { sh := Sh.agg [Sh.one, Sh.one], dyn := false, frz := false, v := AV.dat (D.agg [D.slc (Sh.agg [Sh.one, Sh.one, Sh.one, Sh.one, Sh.agg [Sh.one, Sh.one]]) ds, D.fn (Fn.func 57) [] []]) }]) else some ([AV.dat (D.int IntKind.i64 (-1 : Int))], [{ sh := Sh.one, dyn := false, frz := false, v := AV.ptr (Sh.agg [Sh.one, Sh.one]) 1 0 [] }, { sh := Sh.agg [Sh.one, Sh.one], dyn := false, frz := false, v := AV.dat (D.agg [D.slc (Sh.agg [Sh.one, Sh.one, Sh.one, Sh.one, Sh.agg [Sh.one, Sh.one]]) ds, D.fn (Fn.func 57) [] []]) }])) else none) := by kernel_rfl
theorem ij_case0 (ls : List D) (ds : List D) : runF (envOf tab ([(63, C_ifr)]) [] [(2, L_ij)] []) true Try.f49 [.dat (.slc (.agg [.one, .one, .one, .one, .agg [.one, .one]]) ls), (.fn (.func 63) [] [.ptr .one 0 0 []])] ([⟨.one, false, false, .ptr (.agg [.one, .one]) 1 0 []⟩, ⟨.agg [.one, .one], false, false, .dat (.agg [.slc (.agg [.one, .one, .one, .one, .agg [.one, .one]]) ds, .fn (.func 57) [] []])⟩]) = FunT.run S_ij [.dat (.slc (.agg [.one, .one, .one, .one, .agg [.one, .one]]) ls), (.fn (.func 63) [] [.ptr .one 0 0 []])] ([⟨.one, false, false, .ptr (.agg [.one, .one]) 1 0 []⟩, ⟨.agg [.one, .one], false, false, .dat (.agg [.slc (.agg [.one, .one, .one, .one, .agg [.one, .one]]) ds, .fn (.func 57) [] []])⟩]) := (ij_raw0 ls ds).trans (cong2 (cond_cases (fun h0 => (by (try rw [h0]) <;> rfl)) (fun h0 => (by (try rw [h0]) <;> rfl))) rfl)
theorem ij_ok : FunOk Try.prog 49 (FunT.run S_ij) := by
  refine fun_ok (E := envOf tab ([(63, C_ifr)]) [] [(2, L_ij)] []) (fz := true) (fn := Try.f49) (envOf_ok progOk (.cons cifr_ok (.nil _))) (by kernel_rfl) (by kernel_rfl) (loops_one (by kernel_rfl) (ij_loopOk _ rfl)) ?_
  intro args σ r h
  unfold S_ij at h
  split at h
  · exact (ij_case0 _ _).trans h
  · simp [T.run_fail] at h

def C_ij : FunT := fun args σ => match args, σ with
  | [.dat (.slc (.agg [.one, .one, .one, .one, .agg [.one, .one]]) ls), (.fn (.func 63) [] [.ptr .one 0 0 []])], ([⟨.one, false, false, .ptr (.agg [.one, .one]) 1 0 []⟩, ⟨.agg [.one, .one], false, false, .dat (.agg [.slc (.agg [.one, .one, .one, .one, .agg [.one, .one]]) ds, .fn (.func 57) [] []])⟩]) => .chk (ij_okL ds ls) (.leaf ([.dat (.int .i64 (ij_idx ds ls))], ([⟨.one, false, false, .ptr (.agg [.one, .one]) 1 0 []⟩, ⟨.agg [.one, .one], false, false, .dat (.agg [.slc (.agg [.one, .one, .one, .one, .agg [.one, .one]]) ds, .fn (.func 57) [] []])⟩])))
  | _, _ => .fail
theorem cij_ok : FunOk Try.prog 49 (FunT.run C_ij) := ij_ok.of (by
  intro args σ r h
  unfold C_ij at h
  split at h
  · rename_i ls ds
    obtain ⟨hc, h'⟩ := T.chk_some h
    rw [← T.leaf_some h']
    unfold S_ij ij_idx
    simp only [hc, decide_true, Bool.and_true, T.run_chk, T.run_leaf, cond_true]
    all_goals (cases ls.any ((fun d => !D.getB (nthD (D.getL d) 0))) <;> rfl)
  · simp [T.run_fail] at h)
def ifs_v0 (ds : List D) : Int := bif decide (ij_idx ds ds < (0 : Int)) then (0 : Int) else ij_idx ds ds
def ifs_v1 (ds : List D) : Int := bif decide (ij_idx ds ds < (0 : Int)) then (8 : Int) else (0 : Int)
def C_ifs : FunT := fun args σ => match args, σ with
  | [AV.ptr (Sh.agg [Sh.one, Sh.one]) 0 0 []], [{ sh := Sh.agg [Sh.one, Sh.one], dyn := false, frz := false, v := AV.dat (D.agg [D.slc (Sh.agg [Sh.one, Sh.one, Sh.one, Sh.one, Sh.agg [Sh.one, Sh.one]]) ds, D.fn (Fn.func 57) [] []]) }] => .chk (ij_okL ds ds) (.leaf ([AV.dat (D.int IntKind.i64 (ifs_v0 ds)), AV.dat (D.int IntKind.i64 (ifs_v1 ds))], [{ sh := Sh.agg [Sh.one, Sh.one], dyn := false, frz := false, v := AV.dat (D.agg [D.slc (Sh.agg [Sh.one, Sh.one, Sh.one, Sh.one, Sh.agg [Sh.one, Sh.one]]) ds, D.fn (Fn.func 57) [] []]) }]))
  | _, _ => .fail
theorem ifs_raw0 (ds : List D) : runF (envOf tab [(60, C_imd), (49, C_ij)] [] [] []) true Try.f58 [.ptr (.agg [.one, .one]) 0 0 []] [irow ds] =
  (bif ij_okL ds ds then 
   (bif decide (ij_idx ds ds < (0 : Int)) then some ([AV.dat (D.int IntKind.i64 (0 : Int)), AV.dat (D.int IntKind.i64 (8 : Int))], [{ sh := Sh.agg [Sh.one, Sh.one], dyn := false, frz := false, v := AV.dat (D.agg [D.slc (Sh.agg [Sh.one, Sh.one, Sh.one, Sh.one, Sh.agg [Sh.one, Sh.one]]) ds, D.fn (Fn.func 57) [] []]) }]) else some ([AV.dat (D.int IntKind.i64 (ij_idx ds ds)), AV.dat (D.int IntKind.i64 (0 : Int))], [{ sh := Sh.agg [Sh.one, Sh.one], dyn := false, frz := false, v := AV.dat (D.agg [D.slc (Sh.agg [Sh.one, Sh.one, Sh.one, Sh.one, Sh.agg [Sh.one, Sh.one]]) ds, D.fn (Fn.func 57) [] []]) }])) else none) := by kernel_rfl
theorem ifs_case0 (ds : List D) : runF (envOf tab [(60, C_imd), (49, C_ij)] [] [] []) true Try.f58 [.ptr (.agg [.one, .one]) 0 0 []] [irow ds] = FunT.run C_ifs [.ptr (.agg [.one, .one]) 0 0 []] [irow ds] := (ifs_raw0 ds).trans (by
  show _ = (cond (ij_okL ds ds) (some (([AV.dat (D.int IntKind.i64 (bif decide (ij_idx ds ds < (0 : Int)) then (0 : Int) else ij_idx ds ds)), AV.dat (D.int IntKind.i64 (bif decide (ij_idx ds ds < (0 : Int)) then (8 : Int) else (0 : Int)))], [{ sh := Sh.agg [Sh.one, Sh.one], dyn := false, frz := false, v := AV.dat (D.agg [D.slc (Sh.agg [Sh.one, Sh.one, Sh.one, Sh.one, Sh.agg [Sh.one, Sh.one]]) ds, D.fn (Fn.func 57) [] []]) }]) : Res)) none)
  generalize (ij_okL ds ds) = z0
  cases z0 with
  | true =>
   generalize (decide (ij_idx ds ds < (0 : Int))) = z1
   cases z1 with
   | true =>
    rfl
   | false =>
    rfl
  | false =>
   rfl
  )
theorem cifs_ok : FunOk Try.prog 58 (FunT.run C_ifs) := by
  refine fun_ok (E := envOf tab [(60, C_imd), (49, C_ij)] [] [] []) (fz := true) (fn := Try.f58) (envOf_ok progOk (.cons cimd_ok (.cons cij_ok (.nil _)))) (by kernel_rfl) (by kernel_rfl) (loops_none (by kernel_rfl)) ?_
  intro args σ r h
  unfold C_ifs at h
  split at h
  · exact (ifs_case0 _).trans h
  · simp [T.run_fail] at h

def ipt_v0 (ds : List D) (i : Int) (u : Bool) (s : ByteArray) (k : Int) (w : Int) (a : Int) (b : Int) : List D := bif decide (i < (0 : Int)) then [] else bif decide ((↑(List.length ds) : Int) ≤ i) then [] else seg (List.set ds ((0 : Nat) + Int.toNat i) (D.agg [D.bool u, D.str s, D.int IntKind.i64 k, D.int IntKind.i64 w, D.agg [D.int IntKind.i64 a, D.int IntKind.i64 b]])) 0 (List.length ds)
def ipt_v1 (ds : List D) (i : Int) : Int := bif decide (i < (0 : Int)) then (1 : Int) else bif decide ((↑(List.length ds) : Int) ≤ i) then (1 : Int) else (0 : Int)
def ipt_pre (ds : List D) (i : Int) (u : Bool) (s : ByteArray) (k : Int) (w : Int) (a : Int) (b : Int) : Bool := decide (i < (0 : Int)) || (decide ((↑(List.length ds) : Int) ≤ i) || !List.isEmpty ds && fits (Sh.agg [Sh.one, Sh.one, Sh.one, Sh.one, Sh.agg [Sh.one, Sh.one]]) ds && decide (List.length ds * 56 ≤ 35184372088832) && (decide ((0 : Int) ≤ i) && (decide (i < (↑(List.length ds) : Int)) && (Nat.beq (List.length ds) (List.length ds) && (decide ((0 : Nat) + Int.toNat i < List.length ds) && (okS (Sh.agg [Sh.one, Sh.one, Sh.one, Sh.one, Sh.agg [Sh.one, Sh.one]]) (nthD ds ((0 : Nat) + Int.toNat i)) && (Sh.eqb (Sh.agg [D.shape (nthD (D.getL (nthD ds ((0 : Nat) + Int.toNat i))) 0), D.shape (nthD (D.getL (nthD ds ((0 : Nat) + Int.toNat i))) 1), D.shape (nthD (D.getL (nthD ds ((0 : Nat) + Int.toNat i))) 2), D.shape (nthD (D.getL (nthD ds ((0 : Nat) + Int.toNat i))) 3), Sh.agg [D.shape (nthD (D.getL (nthD (D.getL (nthD ds ((0 : Nat) + Int.toNat i))) 4)) 0), D.shape (nthD (D.getL (nthD (D.getL (nthD ds ((0 : Nat) + Int.toNat i))) 4)) 1)]]) (Sh.agg [Sh.one, Sh.one, Sh.one, Sh.one, Sh.agg [Sh.one, Sh.one]]) && Nat.beq (List.length (List.set ds ((0 : Nat) + Int.toNat i) (D.agg [D.bool u, D.str s, D.int IntKind.i64 k, D.int IntKind.i64 w, D.agg [D.int IntKind.i64 a, D.int IntKind.i64 b]]))) (List.length ds))))))))
def C_ipt : FunT := fun args σ => match args, σ with
  | [AV.ptr (Sh.agg [Sh.one, Sh.one]) 0 0 [], AV.dat (D.int IntKind.i64 i), AV.dat (D.agg [D.bool u, D.str s, D.int IntKind.i64 k, D.int IntKind.i64 w, D.agg [D.int IntKind.i64 a, D.int IntKind.i64 b]])], [{ sh := Sh.agg [Sh.one, Sh.one], dyn := false, frz := false, v := AV.dat (D.agg [D.slc (Sh.agg [Sh.one, Sh.one, Sh.one, Sh.one, Sh.agg [Sh.one, Sh.one]]) ds, D.fn (Fn.func 57) [] []]) }] => .chk ((ipt_pre ds i u s k w a b)) (.leaf ([AV.dat (D.slc (Sh.agg [Sh.one, Sh.one, Sh.one, Sh.one, Sh.agg [Sh.one, Sh.one]]) (ipt_v0 ds i u s k w a b)), AV.dat (D.int IntKind.i64 (ipt_v1 ds i))], [{ sh := Sh.agg [Sh.one, Sh.one], dyn := false, frz := false, v := AV.dat (D.agg [D.slc (Sh.agg [Sh.one, Sh.one, Sh.one, Sh.one, Sh.agg [Sh.one, Sh.one]]) ds, D.fn (Fn.func 57) [] []]) }]))
  | _, _ => .fail
theorem ipt_raw0 (ds : List D) (i : Int) (u : Bool) (s : ByteArray) (k w a b : Int) : runF (envOf tab [(60, C_imd), (48, S_icO)] [] [] []) true Try.f45 [.ptr (.agg [.one, .one]) 0 0 [], .dat (.int .i64 i), .dat (.agg [.bool u, .str s, .int .i64 k, .int .i64 w, .agg [.int .i64 a, .int .i64 b]])] [irow ds] =
  (bif decide (i < (0 : Int)) then some ([AV.dat (D.slc (Sh.agg [Sh.one, Sh.one, Sh.one, Sh.one, Sh.agg [Sh.one, Sh.one]]) []), AV.dat (D.int IntKind.i64 (1 : Int))], [{ sh := Sh.agg [Sh.one, Sh.one], dyn := false, frz := false, v := AV.dat (D.agg [D.slc (Sh.agg [Sh.one, Sh.one, Sh.one, Sh.one, Sh.agg [Sh.one, Sh.one]]) ds, D.fn (Fn.func 57) [] []]) }]) else 
   (bif decide (i ≥ (↑(List.length ds) : Int)) then some ([AV.dat (D.slc (Sh.agg [Sh.one, Sh.one, Sh.one, Sh.one, Sh.agg [Sh.one, Sh.one]]) []), AV.dat (D.int IntKind.i64 (1 : Int))], [{ sh := Sh.agg [Sh.one, Sh.one], dyn := false, frz := false, v := AV.dat (D.agg [D.slc (Sh.agg [Sh.one, Sh.one, Sh.one, Sh.one, Sh.agg [Sh.one, Sh.one]]) ds, D.fn (Fn.func 57) [] []]) }]) else 
    (bif !List.isEmpty ds && fits (Sh.agg [Sh.one, Sh.one, Sh.one, Sh.one, Sh.agg [Sh.one, Sh.one]]) ds && decide (List.length ds * 56 ≤ 35184372088832) then 
     (bif decide ((0 : Int) ≤ i) then 
      (bif decide (i < (↑(List.length ds) : Int)) then 
       (bif Nat.beq (List.length ds) (List.length ds) && true && true then 
        (bif decide ((0 : Nat) + Int.toNat i < List.length ds) then 
         (bif okS (Sh.agg [Sh.one, Sh.one, Sh.one, Sh.one, Sh.agg [Sh.one, Sh.one]]) (nthD ds ((0 : Nat) + Int.toNat i)) then 
          (bif Sh.eqb (Sh.agg [D.shape (nthD (D.getL (nthD ds ((0 : Nat) + Int.toNat i))) 0), D.shape (nthD (D.getL (nthD ds ((0 : Nat) + Int.toNat i))) 1), D.shape (nthD (D.getL (nthD ds ((0 : Nat) + Int.toNat i))) 2), D.shape (nthD (D.getL (nthD ds ((0 : Nat) + Int.toNat i))) 3), Sh.agg [D.shape (nthD (D.getL (nthD (D.getL (nthD ds ((0 : Nat) + Int.toNat i))) 4)) 0), D.shape (nthD (D.getL (nthD (D.getL (nthD ds ((0 : Nat) + Int.toNat i))) 4)) 1)]]) (Sh.agg [Sh.one, Sh.one, Sh.one, Sh.one, Sh.agg [Sh.one, Sh.one]]) then 
           (bif Nat.beq (List.length (List.set ds ((0 : Nat) + Int.toNat i) (D.agg [D.bool u, D.str s, D.int IntKind.i64 k, D.int IntKind.i64 w, D.agg [D.int IntKind.i64 a, D.int IntKind.i64 b]]))) (List.length ds) then some ([AV.dat (D.slc (Sh.agg [Sh.one, Sh.one, Sh.one, Sh.one, Sh.agg [Sh.one, Sh.one]]) (seg (List.set ds ((0 : Nat) + Int.toNat i) (D.agg [D.bool u, D.str s, D.int IntKind.i64 k, D.int IntKind.i64 w, D.agg [D.int IntKind.i64 a, D.int IntKind.i64 b]])) 0 (List.length ds))), AV.dat (D.int IntKind.i64 (0 : Int))], [{ sh := Sh.agg [Sh.one, Sh.one], dyn := false, frz := false, v := AV.dat (D.agg [D.slc (Sh.agg [Sh.one, Sh.one, Sh.one, Sh.one, Sh.agg [Sh.one, Sh.one]]) ds, D.fn (Fn.func 57) [] []]) }]) else none) else none) else none) else none) else none) else none) else none) else none))) := by kernel_rfl
theorem ipt_case0 (ds : List D) (i : Int) (u : Bool) (s : ByteArray) (k w a b : Int) : runF (envOf tab [(60, C_imd), (48, S_icO)] [] [] []) true Try.f45 [.ptr (.agg [.one, .one]) 0 0 [], .dat (.int .i64 i), .dat (.agg [.bool u, .str s, .int .i64 k, .int .i64 w, .agg [.int .i64 a, .int .i64 b]])] [irow ds] = FunT.run C_ipt [.ptr (.agg [.one, .one]) 0 0 [], .dat (.int .i64 i), .dat (.agg [.bool u, .str s, .int .i64 k, .int .i64 w, .agg [.int .i64 a, .int .i64 b]])] [irow ds] := (ipt_raw0 ds i u s k w a b).trans (by
  show _ = (cond (decide (i < (0 : Int)) || (decide ((↑(List.length ds) : Int) ≤ i) || !List.isEmpty ds && fits (Sh.agg [Sh.one, Sh.one, Sh.one, Sh.one, Sh.agg [Sh.one, Sh.one]]) ds && decide (List.length ds * 56 ≤ 35184372088832) && (decide ((0 : Int) ≤ i) && (decide (i < (↑(List.length ds) : Int)) && (Nat.beq (List.length ds) (List.length ds) && (decide ((0 : Nat) + Int.toNat i < List.length ds) && (okS (Sh.agg [Sh.one, Sh.one, Sh.one, Sh.one, Sh.agg [Sh.one, Sh.one]]) (nthD ds ((0 : Nat) + Int.toNat i)) && (Sh.eqb (Sh.agg [D.shape (nthD (D.getL (nthD ds ((0 : Nat) + Int.toNat i))) 0), D.shape (nthD (D.getL (nthD ds ((0 : Nat) + Int.toNat i))) 1), D.shape (nthD (D.getL (nthD ds ((0 : Nat) + Int.toNat i))) 2), D.shape (nthD (D.getL (nthD ds ((0 : Nat) + Int.toNat i))) 3), Sh.agg [D.shape (nthD (D.getL (nthD (D.getL (nthD ds ((0 : Nat) + Int.toNat i))) 4)) 0), D.shape (nthD (D.getL (nthD (D.getL (nthD ds ((0 : Nat) + Int.toNat i))) 4)) 1)]]) (Sh.agg [Sh.one, Sh.one, Sh.one, Sh.one, Sh.agg [Sh.one, Sh.one]]) && Nat.beq (List.length (List.set ds ((0 : Nat) + Int.toNat i) (D.agg [D.bool u, D.str s, D.int IntKind.i64 k, D.int IntKind.i64 w, D.agg [D.int IntKind.i64 a, D.int IntKind.i64 b]]))) (List.length ds))))))))) (some (([AV.dat (D.slc (Sh.agg [Sh.one, Sh.one, Sh.one, Sh.one, Sh.agg [Sh.one, Sh.one]]) (bif decide (i < (0 : Int)) then [] else bif decide ((↑(List.length ds) : Int) ≤ i) then [] else seg (List.set ds ((0 : Nat) + Int.toNat i) (D.agg [D.bool u, D.str s, D.int IntKind.i64 k, D.int IntKind.i64 w, D.agg [D.int IntKind.i64 a, D.int IntKind.i64 b]])) 0 (List.length ds))), AV.dat (D.int IntKind.i64 (bif decide (i < (0 : Int)) then (1 : Int) else bif decide ((↑(List.length ds) : Int) ≤ i) then (1 : Int) else (0 : Int)))], [{ sh := Sh.agg [Sh.one, Sh.one], dyn := false, frz := false, v := AV.dat (D.agg [D.slc (Sh.agg [Sh.one, Sh.one, Sh.one, Sh.one, Sh.agg [Sh.one, Sh.one]]) ds, D.fn (Fn.func 57) [] []]) }]) : Res)) none)
  generalize (decide (i < (0 : Int))) = z0
  cases z0 with
  | true =>
   rfl
  | false =>
   generalize (decide ((↑(List.length ds) : Int) ≤ i)) = z1
   cases z1 with
   | true =>
    rfl
   | false =>
    generalize (!List.isEmpty ds && fits (Sh.agg [Sh.one, Sh.one, Sh.one, Sh.one, Sh.agg [Sh.one, Sh.one]]) ds && decide (List.length ds * 56 ≤ 35184372088832)) = z2
    cases z2 with
    | true =>
     generalize (decide ((0 : Int) ≤ i)) = z3
     cases z3 with
     | true =>
      generalize (decide (i < (↑(List.length ds) : Int))) = z4
      cases z4 with
      | true =>
       generalize (Nat.beq (List.length ds) (List.length ds)) = z5
       cases z5 with
       | true =>
        generalize (decide ((0 : Nat) + Int.toNat i < List.length ds)) = z6
        cases z6 with
        | true =>
         generalize (okS (Sh.agg [Sh.one, Sh.one, Sh.one, Sh.one, Sh.agg [Sh.one, Sh.one]]) (nthD ds ((0 : Nat) + Int.toNat i))) = z7
         cases z7 with
         | true =>
          generalize (Sh.eqb (Sh.agg [D.shape (nthD (D.getL (nthD ds ((0 : Nat) + Int.toNat i))) 0), D.shape (nthD (D.getL (nthD ds ((0 : Nat) + Int.toNat i))) 1), D.shape (nthD (D.getL (nthD ds ((0 : Nat) + Int.toNat i))) 2), D.shape (nthD (D.getL (nthD ds ((0 : Nat) + Int.toNat i))) 3), Sh.agg [D.shape (nthD (D.getL (nthD (D.getL (nthD ds ((0 : Nat) + Int.toNat i))) 4)) 0), D.shape (nthD (D.getL (nthD (D.getL (nthD ds ((0 : Nat) + Int.toNat i))) 4)) 1)]]) (Sh.agg [Sh.one, Sh.one, Sh.one, Sh.one, Sh.agg [Sh.one, Sh.one]])) = z8
          cases z8 with
          | true =>
           generalize (Nat.beq (List.length (List.set ds ((0 : Nat) + Int.toNat i) (D.agg [D.bool u, D.str s, D.int IntKind.i64 k, D.int IntKind.i64 w, D.agg [D.int IntKind.i64 a, D.int IntKind.i64 b]]))) (List.length ds)) = z9
           cases z9 with
           | true =>
            rfl
           | false =>
            rfl
          | false =>
           rfl
         | false =>
          rfl
        | false =>
         rfl
       | false =>
        rfl
      | false =>
       rfl
     | false =>
      rfl
    | false =>
     rfl
  )
theorem cipt_ok : FunOk Try.prog 45 (FunT.run C_ipt) := by
  refine fun_ok (E := envOf tab [(60, C_imd), (48, S_icO)] [] [] []) (fz := true) (fn := Try.f45) (envOf_ok progOk (.cons cimd_ok (.cons icO_ok (.nil _)))) (by kernel_rfl) (by kernel_rfl) (loops_none (by kernel_rfl)) ?_
  intro args σ r h
  unfold C_ipt at h
  split at h
  · exact (ipt_case0 _ _ _ _ _ _ _ _).trans h
  · simp [T.run_fail] at h

def iad_v0 (ds : List D) (u : Bool) (s : ByteArray) (k : Int) (w : Int) (a : Int) (b : Int) : List D := bif ifs_v1 ds != (0 : Int) then [] else ipt_v0 ds (ifs_v0 ds) u s k w a b
def iad_v1 (ds : List D) : Int := bif ifs_v1 ds != (0 : Int) then (0 : Int) else ifs_v0 ds
def iad_v2 (ds : List D) : Int := bif ifs_v1 ds != (0 : Int) then ifs_v1 ds else ipt_v1 ds (ifs_v0 ds)
def iad_pre (ds : List D) (u : Bool) (s : ByteArray) (k : Int) (w : Int) (a : Int) (b : Int) : Bool := ij_okL ds ds && (ifs_v1 ds != (0 : Int) || ipt_pre ds (ifs_v0 ds) u s k w a b)
def C_iad : FunT := fun args σ => match args, σ with
  | [AV.ptr (Sh.agg [Sh.one, Sh.one]) 0 0 [], AV.dat (D.agg [D.bool u, D.str s, D.int IntKind.i64 k, D.int IntKind.i64 w, D.agg [D.int IntKind.i64 a, D.int IntKind.i64 b]])], [{ sh := Sh.agg [Sh.one, Sh.one], dyn := false, frz := false, v := AV.dat (D.agg [D.slc (Sh.agg [Sh.one, Sh.one, Sh.one, Sh.one, Sh.agg [Sh.one, Sh.one]]) ds, D.fn (Fn.func 57) [] []]) }] => .chk ((iad_pre ds u s k w a b)) (.leaf ([AV.dat (D.slc (Sh.agg [Sh.one, Sh.one, Sh.one, Sh.one, Sh.agg [Sh.one, Sh.one]]) (iad_v0 ds u s k w a b)), AV.dat (D.int IntKind.i64 (iad_v1 ds)), AV.dat (D.int IntKind.i64 (iad_v2 ds))], [{ sh := Sh.agg [Sh.one, Sh.one], dyn := false, frz := false, v := AV.dat (D.agg [D.slc (Sh.agg [Sh.one, Sh.one, Sh.one, Sh.one, Sh.agg [Sh.one, Sh.one]]) ds, D.fn (Fn.func 57) [] []]) }]))
  | _, _ => .fail
theorem iad_raw0 (ds : List D) (u : Bool) (s : ByteArray) (k w a b : Int) : runF (envOf tab [(58, C_ifs), (45, C_ipt)] [] [] []) true Try.f38 [.ptr (.agg [.one, .one]) 0 0 [], .dat (.agg [.bool u, .str s, .int .i64 k, .int .i64 w, .agg [.int .i64 a, .int .i64 b]])] [irow ds] =
  (bif ij_okL ds ds then 
   (bif ifs_v1 ds != (0 : Int) then some ([AV.dat (D.slc (Sh.agg [Sh.one, Sh.one, Sh.one, Sh.one, Sh.agg [Sh.one, Sh.one]]) []), AV.dat (D.int IntKind.i64 (0 : Int)), AV.dat (D.int IntKind.i64 (ifs_v1 ds))], [{ sh := Sh.agg [Sh.one, Sh.one], dyn := false, frz := false, v := AV.dat (D.agg [D.slc (Sh.agg [Sh.one, Sh.one, Sh.one, Sh.one, Sh.agg [Sh.one, Sh.one]]) ds, D.fn (Fn.func 57) [] []]) }]) else 
    (bif ipt_pre ds (ifs_v0 ds) u s k w a b then some ([AV.dat (D.slc (Sh.agg [Sh.one, Sh.one, Sh.one, Sh.one, Sh.agg [Sh.one, Sh.one]]) (ipt_v0 ds (ifs_v0 ds) u s k w a b)), AV.dat (D.int IntKind.i64 (ifs_v0 ds)), AV.dat (D.int IntKind.i64 (ipt_v1 ds (ifs_v0 ds)))], [{ sh := Sh.agg [Sh.one, Sh.one], dyn := false, frz := false, v := AV.dat (D.agg [D.slc (Sh.agg [Sh.one, Sh.one, Sh.one, Sh.one, Sh.agg [Sh.one, Sh.one]]) ds, D.fn (Fn.func 57) [] []]) }]) else none)) else none) := by kernel_rfl
theorem iad_case0 (ds : List D) (u : Bool) (s : ByteArray) (k w a b : Int) : runF (envOf tab [(58, C_ifs), (45, C_ipt)] [] [] []) true Try.f38 [.ptr (.agg [.one, .one]) 0 0 [], .dat (.agg [.bool u, .str s, .int .i64 k, .int .i64 w, .agg [.int .i64 a, .int .i64 b]])] [irow ds] = FunT.run C_iad [.ptr (.agg [.one, .one]) 0 0 [], .dat (.agg [.bool u, .str s, .int .i64 k, .int .i64 w, .agg [.int .i64 a, .int .i64 b]])] [irow ds] := (iad_raw0 ds u s k w a b).trans (by
  show _ = (cond (ij_okL ds ds && (ifs_v1 ds != (0 : Int) || ipt_pre ds (ifs_v0 ds) u s k w a b)) (some (([AV.dat (D.slc (Sh.agg [Sh.one, Sh.one, Sh.one, Sh.one, Sh.agg [Sh.one, Sh.one]]) (bif ifs_v1 ds != (0 : Int) then [] else ipt_v0 ds (ifs_v0 ds) u s k w a b)), AV.dat (D.int IntKind.i64 (bif ifs_v1 ds != (0 : Int) then (0 : Int) else ifs_v0 ds)), AV.dat (D.int IntKind.i64 (bif ifs_v1 ds != (0 : Int) then ifs_v1 ds else ipt_v1 ds (ifs_v0 ds)))], [{ sh := Sh.agg [Sh.one, Sh.one], dyn := false, frz := false, v := AV.dat (D.agg [D.slc (Sh.agg [Sh.one, Sh.one, Sh.one, Sh.one, Sh.agg [Sh.one, Sh.one]]) ds, D.fn (Fn.func 57) [] []]) }]) : Res)) none)
  generalize (ij_okL ds ds) = z0
  cases z0 with
  | true =>
   generalize (ifs_v1 ds != (0 : Int)) = z1
   cases z1 with
   | true =>
    rfl
   | false =>
    generalize (ipt_pre ds (ifs_v0 ds) u s k w a b) = z2
    cases z2 with
    | true =>
     rfl
    | false =>
     rfl
  | false =>
   rfl
  )
theorem ciad_ok : FunOk Try.prog 38 (FunT.run C_iad) := by
  refine fun_ok (E := envOf tab [(58, C_ifs), (45, C_ipt)] [] [] []) (fz := true) (fn := Try.f38) (envOf_ok progOk (.cons cifs_ok (.cons cipt_ok (.nil _)))) (by kernel_rfl) (by kernel_rfl) (loops_none (by kernel_rfl)) ?_
  intro args σ r h
  unfold C_iad at h
  split at h
  · exact (iad_case0 _ _ _ _ _ _ _).trans h
  · simp [T.run_fail] at h

def ihas_v0 (ds : List D) (i : Int) : Bool := decide ((0 : Int) ≤ i) && (decide (i < (↑(List.length ds) : Int)) && D.getB (nthD (D.getL (nthD ds (Int.toNat i))) 0))
def ihas_pre (ds : List D) (i : Int) : Bool := !decide ((0 : Int) ≤ i) || (!decide (i < (↑(List.length ds) : Int)) || decide (Int.toNat i < List.length ds) && okE (Ek.agg [Ek.bool, Ek.str, Ek.int IntKind.i64, Ek.int IntKind.i64, Ek.agg [Ek.int IntKind.i64, Ek.int IntKind.i64]]) (nthD ds (Int.toNat i)))
def C_ihas : FunT := fun args σ => match args, σ with
  | [AV.ptr (Sh.agg [Sh.one, Sh.one]) 0 0 [], AV.dat (D.int IntKind.i64 i)], [{ sh := Sh.agg [Sh.one, Sh.one], dyn := false, frz := false, v := AV.dat (D.agg [D.slc (Sh.agg [Sh.one, Sh.one, Sh.one, Sh.one, Sh.agg [Sh.one, Sh.one]]) ds, D.fn (Fn.func 57) [] []]) }] => .chk ((ihas_pre ds i)) (.leaf ([AV.dat (D.bool (ihas_v0 ds i))], [{ sh := Sh.agg [Sh.one, Sh.one], dyn := false, frz := false, v := AV.dat (D.agg [D.slc (Sh.agg [Sh.one, Sh.one, Sh.one, Sh.one, Sh.agg [Sh.one, Sh.one]]) ds, D.fn (Fn.func 57) [] []]) }]))
  | _, _ => .fail
theorem ihas_raw0 (ds : List D) (i : Int) : runF (envOf tab [(60, C_imd), (57, C_itk)] [] [] []) true Try.f59 [.ptr (.agg [.one, .one]) 0 0 [], .dat (.int .i64 i)] [irow ds] =
  (bif decide (i ≥ (0 : Int)) then 
   (bif decide (i < (↑(List.length ds) : Int)) then 
    (bif decide ((0 : Int) ≤ i) then 
     (bif decide (Int.toNat i < List.length ds) then 
      (bif okE (Ek.agg [Ek.bool, Ek.str, Ek.int IntKind.i64, Ek.int IntKind.i64, Ek.agg [Ek.int IntKind.i64, Ek.int IntKind.i64]]) (nthD ds (Int.toNat i)) then some ([AV.dat (D.bool (D.getB (nthD (D.getL (nthD ds (Int.toNat i))) 0)))], [{ sh := Sh.agg [Sh.one, Sh.one], dyn := false, frz := false, v := AV.dat (D.agg [D.slc (Sh.agg [Sh.one, Sh.one, Sh.one, Sh.one, Sh.agg [Sh.one, Sh.one]]) ds, D.fn (Fn.func 57) [] []]) }]) else none) else none) else none) else some ([AV.dat (D.bool false)], [{ sh := Sh.agg [Sh.one, Sh.one], dyn := false, frz := false, v := AV.dat (D.agg [D.slc (Sh.agg [Sh.one, Sh.one, Sh.one, Sh.one, Sh.agg [Sh.one, Sh.one]]) ds, D.fn (Fn.func 57) [] []]) }])) else some ([AV.dat (D.bool false)], [{ sh := Sh.agg [Sh.one, Sh.one], dyn := false, frz := false, v := AV.dat (D.agg [D.slc (Sh.agg [Sh.one, Sh.one, Sh.one, Sh.one, Sh.agg [Sh.one, Sh.one]]) ds, D.fn (Fn.func 57) [] []]) }])) := by kernel_rfl
theorem ihas_case0 (ds : List D) (i : Int) : runF (envOf tab [(60, C_imd), (57, C_itk)] [] [] []) true Try.f59 [.ptr (.agg [.one, .one]) 0 0 [], .dat (.int .i64 i)] [irow ds] = FunT.run C_ihas [.ptr (.agg [.one, .one]) 0 0 [], .dat (.int .i64 i)] [irow ds] := (ihas_raw0 ds i).trans (by
  show _ = (cond (!decide ((0 : Int) ≤ i) || (!decide (i < (↑(List.length ds) : Int)) || decide (Int.toNat i < List.length ds) && okE (Ek.agg [Ek.bool, Ek.str, Ek.int IntKind.i64, Ek.int IntKind.i64, Ek.agg [Ek.int IntKind.i64, Ek.int IntKind.i64]]) (nthD ds (Int.toNat i)))) (some (([AV.dat (D.bool (decide ((0 : Int) ≤ i) && (decide (i < (↑(List.length ds) : Int)) && D.getB (nthD (D.getL (nthD ds (Int.toNat i))) 0))))], [{ sh := Sh.agg [Sh.one, Sh.one], dyn := false, frz := false, v := AV.dat (D.agg [D.slc (Sh.agg [Sh.one, Sh.one, Sh.one, Sh.one, Sh.agg [Sh.one, Sh.one]]) ds, D.fn (Fn.func 57) [] []]) }]) : Res)) none)
  generalize (decide ((0 : Int) ≤ i)) = z0
  cases z0 with
  | true =>
   generalize (decide (i < (↑(List.length ds) : Int))) = z1
   cases z1 with
   | true =>
    generalize (decide (Int.toNat i < List.length ds)) = z2
    cases z2 with
    | true =>
     generalize (okE (Ek.agg [Ek.bool, Ek.str, Ek.int IntKind.i64, Ek.int IntKind.i64, Ek.agg [Ek.int IntKind.i64, Ek.int IntKind.i64]]) (nthD ds (Int.toNat i))) = z3
     cases z3 with
     | true =>
      rfl
     | false =>
      rfl
    | false =>
     rfl
   | false =>
    rfl
  | false =>
   rfl
  )
theorem cihas_ok : FunOk Try.prog 59 (FunT.run C_ihas) := by
  refine fun_ok (E := envOf tab [(60, C_imd), (57, C_itk)] [] [] []) (fz := true) (fn := Try.f59) (envOf_ok progOk (.cons cimd_ok (.cons citk_ok (.nil _)))) (by kernel_rfl) (by kernel_rfl) (loops_none (by kernel_rfl)) ?_
  intro args σ r h
  unfold C_ihas at h
  split at h
  · exact (ihas_case0 _ _).trans h
  · simp [T.run_fail] at h


end Go.Proofs.Ytnegedbjcjfndaa
