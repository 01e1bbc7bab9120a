/- Seat 15: rows of exits. -/
import Derived.Test.YtiegehdiffemlaaC
namespace Go.Proofs.Ytiegehdiffemlaa
open Go.AX
set_option maxRecDepth 100000

def isref_v0 (a : Int) (b : Int) : Bool := decide (a ≥ (0 : Int)) && (decide (a ≤ (127 : Int)) && (decide (b ≥ (0 : Int)) && decide (b ≤ (127 : Int))))
def C_isref : FunT := fun args σ => match args, σ with
  | [AV.dat (D.agg [D.int IntKind.i64 a, D.int IntKind.i64 b])], [] => .leaf ([AV.dat (D.bool (isref_v0 a b))], [])
  | _, _ => .fail
theorem isref_raw0 (a b : Int) : runF (envOf tab [] [] [] []) true Try.f23 [.dat (.agg [.int .i64 a, .int .i64 b])] [] =
  (bif decide (a ≥ (0 : Int)) == true then 
   (bif decide (a ≥ (0 : Int)) then 
    (bif decide (a ≤ (127 : Int)) == true then 
     (bif decide (a ≤ (127 : Int)) then 
      (bif decide (b ≥ (0 : Int)) == true then 
       (bif decide (b ≥ (0 : Int)) then some ([AV.dat (D.bool (decide (b ≤ (127 : Int))))], []) else some ([AV.dat (D.bool false)], [])) else 
       (bif decide (b ≥ (0 : Int)) then none else some ([AV.dat (D.bool false)], []))) else some ([AV.dat (D.bool false)], [])) else 
     (bif decide (a ≤ (127 : Int)) then none else some ([AV.dat (D.bool false)], []))) else some ([AV.dat (D.bool false)], [])) else 
   (bif decide (a ≥ (0 : Int)) then none else some ([AV.dat (D.bool false)], []))) := by kernel_rfl
theorem isref_case0 (a b : Int) : runF (envOf tab [] [] [] []) true Try.f23 [.dat (.agg [.int .i64 a, .int .i64 b])] [] = FunT.run C_isref [.dat (.agg [.int .i64 a, .int .i64 b])] [] := (isref_raw0 a b).trans (by
  show _ = some (([AV.dat (D.bool (decide (a ≥ (0 : Int)) && (decide (a ≤ (127 : Int)) && (decide (b ≥ (0 : Int)) && decide (b ≤ (127 : Int))))))], []) : Res)
  generalize (decide (a ≥ (0 : Int))) = z0
  cases z0 with
  | true =>
   generalize (decide (a ≤ (127 : Int))) = z1
   cases z1 with
   | true =>
    generalize (decide (b ≥ (0 : Int))) = z2
    cases z2 with
    | true =>
     rfl
    | false =>
     rfl
   | false =>
    rfl
  | false =>
   rfl
  )
theorem cisref_ok : FunOk Try.prog 23 (FunT.run C_isref) := by
  refine fun_ok (E := envOf tab [] [] [] []) (fz := true) (fn := Try.f23) (envOf_ok progOk (.nil _)) (by kernel_rfl) (by kernel_rfl) (loops_none (by kernel_rfl)) ?_
  intro args σ r h
  unfold C_isref at h
  split at h
  · exact (isref_case0 _ _).trans h
  · simp [T.run_fail] at h

def isdir_v0 (d : Int) : Bool := decide (d ≥ (0 : Int)) && decide (d < (6 : Int))
def C_isdir : FunT := fun args σ => match args, σ with
  | [AV.dat (D.int IntKind.i64 d)], [] => .leaf ([AV.dat (D.bool (isdir_v0 d))], [])
  | _, _ => .fail
theorem isdir_raw0 (d : Int) : runF (envOf tab [] [] [] []) true Try.f24 [.dat (.int .i64 d)] [] =
  (bif decide (d ≥ (0 : Int)) == true then 
   (bif decide (d ≥ (0 : Int)) then some ([AV.dat (D.bool (decide (d < (6 : Int))))], []) else some ([AV.dat (D.bool false)], [])) else 
   (bif decide (d ≥ (0 : Int)) then none else some ([AV.dat (D.bool false)], []))) := by kernel_rfl
theorem isdir_case0 (d : Int) : runF (envOf tab [] [] [] []) true Try.f24 [.dat (.int .i64 d)] [] = FunT.run C_isdir [.dat (.int .i64 d)] [] := (isdir_raw0 d).trans (by
  show _ = some (([AV.dat (D.bool (decide (d ≥ (0 : Int)) && decide (d < (6 : Int))))], []) : Res)
  generalize (decide (d ≥ (0 : Int))) = z0
  cases z0 with
  | true =>
   rfl
  | false =>
   rfl
  )
theorem cisdir_ok : FunOk Try.prog 24 (FunT.run C_isdir) := by
  refine fun_ok (E := envOf tab [] [] [] []) (fz := true) (fn := Try.f24) (envOf_ok progOk (.nil _)) (by kernel_rfl) (by kernel_rfl) (loops_none (by kernel_rfl)) ?_
  intro args σ r h
  unfold C_isdir at h
  split at h
  · exact (isdir_case0 _).trans h
  · simp [T.run_fail] at h

def wrx_v0 (u : Bool) (a : Int) (b : Int) (x : Int) (y : Int) (d : Int) : Bool := bif u then !isref_v0 a b || (!isref_v0 x y || !isdir_v0 d) else true != (u == false && (a == (0 : Int) && (b == (0 : Int) && true) && (x == (0 : Int) && (y == (0 : Int) && true) && (d == (0 : Int) && true))))
def C_wrx : FunT := fun args σ => match args, σ with
  | [AV.dat (D.agg [D.bool u, D.agg [D.int IntKind.i64 a, D.int IntKind.i64 b], D.agg [D.int IntKind.i64 x, D.int IntKind.i64 y], D.int IntKind.i64 d])], [] => .leaf ([AV.dat (D.bool (wrx_v0 u a b x y d))], [])
  | _, _ => .fail
theorem wrx_raw0 (u : Bool) (a b x y d : Int) : runF (envOf tab [(23, C_isref), (24, C_isdir)] [] [] []) true Try.f28 [.dat (.agg [.bool u, .agg [.int .i64 a, .int .i64 b], .agg [.int .i64 x, .int .i64 y], .int .i64 d])] [] =
  (bif !u then some ([AV.dat (D.bool (true != (u == false && (a == (0 : Int) && (b == (0 : Int) && true) && (x == (0 : Int) && (y == (0 : Int) && true) && (d == (0 : Int) && true))))))], []) else 
   (bif (!isref_v0 a b) == false then 
    (bif !isref_v0 a b then some ([AV.dat (D.bool true)], []) else 
     (bif (!isref_v0 x y) == false then 
      (bif !isref_v0 x y then some ([AV.dat (D.bool true)], []) else some ([AV.dat (D.bool !isdir_v0 d)], [])) else 
      (bif !isref_v0 x y then some ([AV.dat (D.bool true)], []) else none))) else 
    (bif !isref_v0 a b then some ([AV.dat (D.bool true)], []) else none))) := by kernel_rfl
theorem wrx_case0 (u : Bool) (a b x y d : Int) : runF (envOf tab [(23, C_isref), (24, C_isdir)] [] [] []) true Try.f28 [.dat (.agg [.bool u, .agg [.int .i64 a, .int .i64 b], .agg [.int .i64 x, .int .i64 y], .int .i64 d])] [] = FunT.run C_wrx [.dat (.agg [.bool u, .agg [.int .i64 a, .int .i64 b], .agg [.int .i64 x, .int .i64 y], .int .i64 d])] [] := (wrx_raw0 u a b x y d).trans (by
  show _ = some (([AV.dat (D.bool (bif u then !isref_v0 a b || (!isref_v0 x y || !isdir_v0 d) else true != (u == false && (a == (0 : Int) && (b == (0 : Int) && true) && (x == (0 : Int) && (y == (0 : Int) && true) && (d == (0 : Int) && true))))))], []) : Res)
  generalize (u) = z0
  cases z0 with
  | true =>
   generalize (isref_v0 a b) = z1
   cases z1 with
   | true =>
    generalize (isref_v0 x y) = z2
    cases z2 with
    | true =>
     rfl
    | false =>
     rfl
   | false =>
    rfl
  | false =>
   rfl
  )
theorem cwrx_ok : FunOk Try.prog 28 (FunT.run C_wrx) := by
  refine fun_ok (E := envOf tab [(23, C_isref), (24, C_isdir)] [] [] []) (fz := true) (fn := Try.f28) (envOf_ok progOk (.cons cisref_ok (.cons cisdir_ok (.nil _)))) (by kernel_rfl) (by kernel_rfl) (loops_none (by kernel_rfl)) ?_
  intro args σ r h
  unfold C_wrx at h
  split at h
  · exact (wrx_case0 _ _ _ _ _ _).trans h
  · simp [T.run_fail] at h

abbrev boxR (a b : Int) : Blk := ⟨.agg [.one, .one], false, false, .dat (.agg [.int .i64 a, .int .i64 b])⟩
abbrev boxI (a : Int) : Blk := ⟨.one, false, false, .dat (.int .i64 a)⟩
def ix1_v0 (u : Bool) (a : Int) (b : Int) (d : Int) (fa : Int) (fb : Int) (fd : Int) : Bool := u && (a == fa && (b == fb && true) && d == fd)
def C_ix1 : FunT := fun args σ => match args, σ with
  | [AV.dat (D.agg [D.bool u, D.agg [D.int IntKind.i64 a, D.int IntKind.i64 b], D.agg [D.int IntKind.i64 _, D.int IntKind.i64 _], D.int IntKind.i64 d]), AV.ptr (Sh.agg [Sh.one, Sh.one]) 0 0 [], AV.ptr Sh.one 1 0 []], [{ sh := Sh.agg [Sh.one, Sh.one], dyn := false, frz := false, v := AV.dat (D.agg [D.int IntKind.i64 fa, D.int IntKind.i64 fb]) }, { sh := Sh.one, dyn := false, frz := false, v := AV.dat (D.int IntKind.i64 fd) }] => .leaf ([AV.dat (D.bool (ix1_v0 u a b d fa fb fd))], [{ sh := Sh.agg [Sh.one, Sh.one], dyn := false, frz := false, v := AV.dat (D.agg [D.int IntKind.i64 fa, D.int IntKind.i64 fb]) }, { sh := Sh.one, dyn := false, frz := false, v := AV.dat (D.int IntKind.i64 fd) }])
  | _, _ => .fail
theorem ix1_raw0 (u : Bool) (a b x y d fa fb fd : Int) : runF (envOf tab [] [] [] []) true Try.f39 [.dat (.agg [.bool u, .agg [.int .i64 a, .int .i64 b], .agg [.int .i64 x, .int .i64 y], .int .i64 d]), .ptr (.agg [.one, .one]) 0 0 [], .ptr .one 1 0 []] [boxR fa fb, boxI fd] =
  (bif u == true then 
   (bif u then 
    (bif (false != (a == fa && (b == fb && true))) == true then 
     (bif false != (a == fa && (b == fb && true)) then some ([AV.dat (D.bool (d == fd))], [{ sh := Sh.agg [Sh.one, Sh.one], dyn := false, frz := false, v := AV.dat (D.agg [D.int IntKind.i64 fa, D.int IntKind.i64 fb]) }, { sh := Sh.one, dyn := false, frz := false, v := AV.dat (D.int IntKind.i64 fd) }]) else some ([AV.dat (D.bool false)], [{ sh := Sh.agg [Sh.one, Sh.one], dyn := false, frz := false, v := AV.dat (D.agg [D.int IntKind.i64 fa, D.int IntKind.i64 fb]) }, { sh := Sh.one, dyn := false, frz := false, v := AV.dat (D.int IntKind.i64 fd) }])) else 
     (bif false != (a == fa && (b == fb && true)) then none else some ([AV.dat (D.bool false)], [{ sh := Sh.agg [Sh.one, Sh.one], dyn := false, frz := false, v := AV.dat (D.agg [D.int IntKind.i64 fa, D.int IntKind.i64 fb]) }, { sh := Sh.one, dyn := false, frz := false, v := AV.dat (D.int IntKind.i64 fd) }]))) else some ([AV.dat (D.bool false)], [{ sh := Sh.agg [Sh.one, Sh.one], dyn := false, frz := false, v := AV.dat (D.agg [D.int IntKind.i64 fa, D.int IntKind.i64 fb]) }, { sh := Sh.one, dyn := false, frz := false, v := AV.dat (D.int IntKind.i64 fd) }])) else 
   (bif u then none else some ([AV.dat (D.bool false)], [{ sh := Sh.agg [Sh.one, Sh.one], dyn := false, frz := false, v := AV.dat (D.agg [D.int IntKind.i64 fa, D.int IntKind.i64 fb]) }, { sh := Sh.one, dyn := false, frz := false, v := AV.dat (D.int IntKind.i64 fd) }]))) := by kernel_rfl
theorem ix1_case0 (u : Bool) (a b x y d fa fb fd : Int) : runF (envOf tab [] [] [] []) true Try.f39 [.dat (.agg [.bool u, .agg [.int .i64 a, .int .i64 b], .agg [.int .i64 x, .int .i64 y], .int .i64 d]), .ptr (.agg [.one, .one]) 0 0 [], .ptr .one 1 0 []] [boxR fa fb, boxI fd] = FunT.run C_ix1 [.dat (.agg [.bool u, .agg [.int .i64 a, .int .i64 b], .agg [.int .i64 x, .int .i64 y], .int .i64 d]), .ptr (.agg [.one, .one]) 0 0 [], .ptr .one 1 0 []] [boxR fa fb, boxI fd] := (ix1_raw0 u a b x y d fa fb fd).trans (by
  show _ = some (([AV.dat (D.bool (u && (a == fa && (b == fb && true) && d == fd)))], [{ sh := Sh.agg [Sh.one, Sh.one], dyn := false, frz := false, v := AV.dat (D.agg [D.int IntKind.i64 fa, D.int IntKind.i64 fb]) }, { sh := Sh.one, dyn := false, frz := false, v := AV.dat (D.int IntKind.i64 fd) }]) : Res)
  generalize (u) = z0
  cases z0 with
  | true =>
   generalize (a == fa && (b == fb && true)) = z1
   cases z1 with
   | true =>
    rfl
   | false =>
    rfl
  | false =>
   rfl
  )
theorem cix1_ok : FunOk Try.prog 39 (FunT.run C_ix1) := by
  refine fun_ok (E := envOf tab [] [] [] []) (fz := true) (fn := Try.f39) (envOf_ok progOk (.nil _)) (by kernel_rfl) (by kernel_rfl) (loops_none (by kernel_rfl)) ?_
  intro args σ r h
  unfold C_ix1 at h
  split at h
  · exact (ix1_case0 _ _ _ _ _ _ _ _ _).trans h
  · simp [T.run_fail] at h

def C_tkx : FunT := fun args σ => match args, σ with
  | [AV.dat (D.agg [D.bool u, D.agg [D.int IntKind.i64 _, D.int IntKind.i64 _], D.agg [D.int IntKind.i64 _, D.int IntKind.i64 _], D.int IntKind.i64 _])], [] => .leaf ([AV.dat (D.bool u)], [])
  | _, _ => .fail
theorem tkx_raw0 (u : Bool) (a b x y d : Int) : runF (envOf tab [] [] [] []) true Try.f41 [.dat (.agg [.bool u, .agg [.int .i64 a, .int .i64 b], .agg [.int .i64 x, .int .i64 y], .int .i64 d])] [] =some ([AV.dat (D.bool u)], []) := by kernel_rfl
theorem tkx_case0 (u : Bool) (a b x y d : Int) : runF (envOf tab [] [] [] []) true Try.f41 [.dat (.agg [.bool u, .agg [.int .i64 a, .int .i64 b], .agg [.int .i64 x, .int .i64 y], .int .i64 d])] [] = FunT.run C_tkx [.dat (.agg [.bool u, .agg [.int .i64 a, .int .i64 b], .agg [.int .i64 x, .int .i64 y], .int .i64 d])] [] := (tkx_raw0 u a b x y d).trans (by
  show _ = some (([AV.dat (D.bool u)], []) : Res)
  rfl
  )
theorem ctkx_ok : FunOk Try.prog 41 (FunT.run C_tkx) := by
  refine fun_ok (E := envOf tab [] [] [] []) (fz := true) (fn := Try.f41) (envOf_ok progOk (.nil _)) (by kernel_rfl) (by kernel_rfl) (loops_none (by kernel_rfl)) ?_
  intro args σ r h
  unfold C_tkx at h
  split at h
  · exact (tkx_case0 _ _ _ _ _ _).trans h
  · simp [T.run_fail] at h

abbrev xrow (ds : List D) : Blk := ⟨shR, false, false, .dat (.agg [.slc (.agg [.one, .agg [.one, .one], .agg [.one, .one], .one]) ds, .fn (.func 41) [] []])⟩
theorem cx0  : runF (envOf tab [] [] [] []) true Try.f44 [.dat (.slc (.agg [.one, .agg [.one, .one], .agg [.one, .one], .one]) [])] [] =some ([AV.dat (D.slc (Sh.agg [Sh.one, Sh.agg [Sh.one, Sh.one], Sh.agg [Sh.one, Sh.one], Sh.one]) [])], []) := by kernel_rfl
theorem cx1 (d : D) (ds : List D) : runF (envOf tab [] [] [] []) true Try.f44 [.dat (.slc (.agg [.one, .agg [.one, .one], .agg [.one, .one], .one]) (d :: ds))] [] =
  (bif fits (Sh.agg [Sh.one, Sh.agg [Sh.one, Sh.one], Sh.agg [Sh.one, Sh.one], Sh.one]) (d :: ds) then 
   (bif decide (((0 : Nat) + List.length (d :: ds)) * (48 : Nat) ≤ (35184372088832 : Nat)) then 
    (bif Nat.beq (List.length (d :: ds)) ((0 : Nat) + List.length (d :: ds)) then some ([AV.dat (D.slc (Sh.agg [Sh.one, Sh.agg [Sh.one, Sh.one], Sh.agg [Sh.one, Sh.one], Sh.one]) (seg (d :: ds) (0 : Nat) ((0 : Nat) + List.length (d :: ds))))], []) else none) else none) else none) := by kernel_rfl
theorem cxO1 (d : D) (ds : List D) : runF (envOf tab [] [] [] []) false Try.f44 [.dat (.slc (.agg [.one, .agg [.one, .one], .agg [.one, .one], .one]) (d :: ds))] [] =
  (bif fits (Sh.agg [Sh.one, Sh.agg [Sh.one, Sh.one], Sh.agg [Sh.one, Sh.one], Sh.one]) (d :: ds) then 
   (bif decide (((0 : Nat) + List.length (d :: ds)) * (48 : Nat) ≤ (35184372088832 : Nat)) then some ([AV.sref (Sh.agg [Sh.one, Sh.agg [Sh.one, Sh.one], Sh.agg [Sh.one, Sh.one], Sh.one]) (0 : Nat) ((0 : Nat) + List.length (d :: ds)) [] (0 : Nat) ((0 : Nat) + List.length (d :: ds))], [{ sh := Sh.arr (Sh.agg [Sh.one, Sh.agg [Sh.one, Sh.one], Sh.agg [Sh.one, Sh.one], Sh.one]) (0 : Nat), dyn := true, frz := false, v := AV.dat (D.arr (Sh.agg [Sh.one, Sh.agg [Sh.one, Sh.one], Sh.agg [Sh.one, Sh.one], Sh.one]) (d :: ds)) }]) else none) else none) := by kernel_rfl
def S_cx : FunT := fun args σ => match args, σ with
  | [.dat (.slc (.agg [.one, .agg [.one, .one], .agg [.one, .one], .one]) ds)], [] => .chk (fits (.agg [.one, .agg [.one, .one], .agg [.one, .one], .one]) ds && decide (ds.length * 48 ≤ LIM)) (.leaf ([.dat (.slc (.agg [.one, .agg [.one, .one], .agg [.one, .one], .one]) ds)], []))
  | _, _ => .fail
theorem cx_ok : FunOk Try.prog 44 (FunT.run S_cx) := by
  refine fun_ok (E := envOf tab [] [] [] []) (fz := true) (fn := Try.f44) (envOf_ok progOk (.nil _)) (by kernel_rfl) (by kernel_rfl) (loops_none (by kernel_rfl)) ?_
  intro args σ r h
  unfold S_cx at h
  split at h
  · rename_i ds
    obtain ⟨hc, h'⟩ := T.chk_some h
    rw [← T.leaf_some h']
    simp only [Bool.and_eq_true, decide_eq_true_eq] at hc
    cases ds with
    | nil => exact cx0
    | cons d ds =>
      rw [cx1, hc.1, Nat.zero_add, decide_eq_true (show (d :: ds).length * 48 ≤ 35184372088832 from hc.2), beq_self, seg_full]; rfl
  · simp [T.run_fail] at h
def S_cxO : FunT := fun args σ => match args, σ with
  | [.dat (.slc (.agg [.one, .agg [.one, .one], .agg [.one, .one], .one]) ds)], [] => .chk (!ds.isEmpty && fits (.agg [.one, .agg [.one, .one], .agg [.one, .one], .one]) ds && decide (ds.length * 48 ≤ LIM)) (.leaf ([.sref (.agg [.one, .agg [.one, .one], .agg [.one, .one], .one]) 0 ds.length [] 0 ds.length], [mkDyn (.agg [.one, .agg [.one, .one], .agg [.one, .one], .one]) ds]))
  | _, _ => .fail
theorem cxO_ok : FunOk Try.prog 44 (FunT.run S_cxO) := by
  refine fun_ok (E := envOf tab [] [] [] []) (fz := false) (fn := Try.f44) (envOf_ok progOk (.nil _)) (by kernel_rfl) (by kernel_rfl) (loops_none (by kernel_rfl)) ?_
  intro args σ r h
  unfold S_cxO at h
  split at h
  · rename_i ds
    obtain ⟨hc, h'⟩ := T.chk_some h
    rw [← T.leaf_some h']
    simp only [Bool.and_eq_true, decide_eq_true_eq] at hc
    cases ds with
    | nil => simp at hc
    | cons d ds => rw [cxO1, hc.1.2, Nat.zero_add, decide_eq_true (show (d :: ds).length * 48 ≤ 35184372088832 from hc.2)]; rfl
  · simp [T.run_fail] at h
def ofx_pre (ds : List D) : Bool := fits (Sh.agg [Sh.one, Sh.agg [Sh.one, Sh.one], Sh.agg [Sh.one, Sh.one], Sh.one]) ds && decide (List.length ds * (48 : Nat) ≤ (35184372088832 : Nat))
def C_ofx : FunT := fun args σ => match args, σ with
  | [AV.dat (D.slc (Sh.agg [Sh.one, Sh.agg [Sh.one, Sh.one], Sh.agg [Sh.one, Sh.one], Sh.one]) ds), AV.dat (D.fn (Fn.func f) [] [])], [] => .chk ((ofx_pre ds)) (.leaf ([AV.ptr (Sh.agg [Sh.one, Sh.one]) (0 : Nat) (0 : Nat) []], [{ sh := Sh.agg [Sh.one, Sh.one], dyn := false, frz := false, v := AV.dat (D.agg [D.slc (Sh.agg [Sh.one, Sh.agg [Sh.one, Sh.one], Sh.agg [Sh.one, Sh.one], Sh.one]) ds, D.fn (Fn.func f) [] []]) }]))
  | _, _ => .fail
theorem ofx_raw0 (ds : List D) (f : FuncId) : runF (envOf tab [(44, S_cx)] [] [] []) false Try.f40 [.dat (.slc (.agg [.one, .agg [.one, .one], .agg [.one, .one], .one]) ds), .dat (.fn (.func f) [] [])] [] =
  (bif fits (Sh.agg [Sh.one, Sh.agg [Sh.one, Sh.one], Sh.agg [Sh.one, Sh.one], Sh.one]) ds && decide (List.length ds * (48 : Nat) ≤ (35184372088832 : Nat)) then some ([AV.ptr (Sh.agg [Sh.one, Sh.one]) (0 : Nat) (0 : Nat) []], [{ sh := Sh.agg [Sh.one, Sh.one], dyn := false, frz := false, v := AV.dat (D.agg [D.slc (Sh.agg [Sh.one, Sh.agg [Sh.one, Sh.one], Sh.agg [Sh.one, Sh.one], Sh.one]) ds, D.fn (Fn.func f) [] []]) }]) else none) := by kernel_rfl
theorem ofx_case0 (ds : List D) (f : FuncId) : runF (envOf tab [(44, S_cx)] [] [] []) false Try.f40 [.dat (.slc (.agg [.one, .agg [.one, .one], .agg [.one, .one], .one]) ds), .dat (.fn (.func f) [] [])] [] = FunT.run C_ofx [.dat (.slc (.agg [.one, .agg [.one, .one], .agg [.one, .one], .one]) ds), .dat (.fn (.func f) [] [])] [] := (ofx_raw0 ds f).trans (by
  show _ = (cond (fits (Sh.agg [Sh.one, Sh.agg [Sh.one, Sh.one], Sh.agg [Sh.one, Sh.one], Sh.one]) ds && decide (List.length ds * (48 : Nat) ≤ (35184372088832 : Nat))) (some (([AV.ptr (Sh.agg [Sh.one, Sh.one]) (0 : Nat) (0 : Nat) []], [{ sh := Sh.agg [Sh.one, Sh.one], dyn := false, frz := false, v := AV.dat (D.agg [D.slc (Sh.agg [Sh.one, Sh.agg [Sh.one, Sh.one], Sh.agg [Sh.one, Sh.one], Sh.one]) ds, D.fn (Fn.func f) [] []]) }]) : Res)) none)
  generalize (fits (Sh.agg [Sh.one, Sh.agg [Sh.one, Sh.one], Sh.agg [Sh.one, Sh.one], Sh.one]) ds && decide (List.length ds * (48 : Nat) ≤ (35184372088832 : Nat))) = z0
  cases z0 with
  | true =>
   rfl
  | false =>
   rfl
  )
theorem cofx_ok : FunOk Try.prog 40 (FunT.run C_ofx) := by
  refine fun_ok (E := envOf tab [(44, S_cx)] [] [] []) (fz := false) (fn := Try.f40) (envOf_ok progOk (.cons cx_ok (.nil _))) (by kernel_rfl) (by kernel_rfl) (loops_none (by kernel_rfl)) ?_
  intro args σ r h
  unfold C_ofx at h
  split at h
  · exact (ofx_case0 _ _).trans h
  · simp [T.run_fail] at h

def C_exits : FunT := fun args σ => match args, σ with
  | [AV.dat (D.slc (Sh.agg [Sh.one, Sh.agg [Sh.one, Sh.one], Sh.agg [Sh.one, Sh.one], Sh.one]) ds)], [] => .chk (ofx_pre ds) (.leaf ([AV.ptr (Sh.agg [Sh.one, Sh.one]) (0 : Nat) (0 : Nat) []], [{ sh := Sh.agg [Sh.one, Sh.one], dyn := false, frz := false, v := AV.dat (D.agg [D.slc (Sh.agg [Sh.one, Sh.agg [Sh.one, Sh.one], Sh.agg [Sh.one, Sh.one], Sh.one]) ds, D.fn (Fn.func (41 : Nat)) [] []]) }]))
  | _, _ => .fail
theorem exits_raw0 (ds : List D) : runF (envOf tab [(40, C_ofx)] [] [] []) false Try.f25 [.dat (.slc (.agg [.one, .agg [.one, .one], .agg [.one, .one], .one]) ds)] [] =
  (bif ofx_pre ds then some ([AV.ptr (Sh.agg [Sh.one, Sh.one]) (0 : Nat) (0 : Nat) []], [{ sh := Sh.agg [Sh.one, Sh.one], dyn := false, frz := false, v := AV.dat (D.agg [D.slc (Sh.agg [Sh.one, Sh.agg [Sh.one, Sh.one], Sh.agg [Sh.one, Sh.one], Sh.one]) ds, D.fn (Fn.func (41 : Nat)) [] []]) }]) else none) := by kernel_rfl
theorem exits_case0 (ds : List D) : runF (envOf tab [(40, C_ofx)] [] [] []) false Try.f25 [.dat (.slc (.agg [.one, .agg [.one, .one], .agg [.one, .one], .one]) ds)] [] = FunT.run C_exits [.dat (.slc (.agg [.one, .agg [.one, .one], .agg [.one, .one], .one]) ds)] [] := (exits_raw0 ds).trans (by
  show _ = (cond (ofx_pre ds) (some (([AV.ptr (Sh.agg [Sh.one, Sh.one]) (0 : Nat) (0 : Nat) []], [{ sh := Sh.agg [Sh.one, Sh.one], dyn := false, frz := false, v := AV.dat (D.agg [D.slc (Sh.agg [Sh.one, Sh.agg [Sh.one, Sh.one], Sh.agg [Sh.one, Sh.one], Sh.one]) ds, D.fn (Fn.func (41 : Nat)) [] []]) }]) : Res)) none)
  generalize (ofx_pre ds) = z0
  cases z0 with
  | true =>
   rfl
  | false =>
   rfl
  )
theorem cexits_ok : FunOk Try.prog 25 (FunT.run C_exits) := by
  refine fun_ok (E := envOf tab [(40, C_ofx)] [] [] []) (fz := false) (fn := Try.f25) (envOf_ok progOk (.cons cofx_ok (.nil _))) (by kernel_rfl) (by kernel_rfl) (loops_none (by kernel_rfl)) ?_
  intro args σ r h
  unfold C_exits at h
  split at h
  · exact (exits_case0 _).trans h
  · simp [T.run_fail] at h

def C_mdx : FunT := fun args σ => match args, σ with
  | [AV.ptr (Sh.agg [Sh.one, Sh.one]) 0 0 []], [{ sh := Sh.agg [Sh.one, Sh.one], dyn := false, frz := false, v := AV.dat (D.agg [D.slc (Sh.agg [Sh.one, Sh.agg [Sh.one, Sh.one], Sh.agg [Sh.one, Sh.one], Sh.one]) ds, D.fn (Fn.func 41) [] []]) }] => .leaf ([AV.dat (D.bool true)], [{ sh := Sh.agg [Sh.one, Sh.one], dyn := false, frz := false, v := AV.dat (D.agg [D.slc (Sh.agg [Sh.one, Sh.agg [Sh.one, Sh.one], Sh.agg [Sh.one, Sh.one], Sh.one]) ds, D.fn (Fn.func (41 : Nat)) [] []]) }])
  | _, _ => .fail
theorem mdx_raw0 (ds : List D) : runF (envOf tab [] [] [] []) true Try.f43 [pR 0] [xrow ds] =some ([AV.dat (D.bool true)], [{ sh := Sh.agg [Sh.one, Sh.one], dyn := false, frz := false, v := AV.dat (D.agg [D.slc (Sh.agg [Sh.one, Sh.agg [Sh.one, Sh.one], Sh.agg [Sh.one, Sh.one], Sh.one]) ds, D.fn (Fn.func (41 : Nat)) [] []]) }]) := by kernel_rfl
theorem mdx_case0 (ds : List D) : runF (envOf tab [] [] [] []) true Try.f43 [pR 0] [xrow ds] = FunT.run C_mdx [pR 0] [xrow ds] := (mdx_raw0 ds).trans (by
  show _ = some (([AV.dat (D.bool true)], [{ sh := Sh.agg [Sh.one, Sh.one], dyn := false, frz := false, v := AV.dat (D.agg [D.slc (Sh.agg [Sh.one, Sh.agg [Sh.one, Sh.one], Sh.agg [Sh.one, Sh.one], Sh.one]) ds, D.fn (Fn.func (41 : Nat)) [] []]) }]) : Res)
  rfl
  )
theorem cmdx_ok : FunOk Try.prog 43 (FunT.run C_mdx) := by
  refine fun_ok (E := envOf tab [] [] [] []) (fz := true) (fn := Try.f43) (envOf_ok progOk (.nil _)) (by kernel_rfl) (by kernel_rfl) (loops_none (by kernel_rfl)) ?_
  intro args σ r h
  unfold C_mdx at h
  split at h
  · exact (mdx_case0 _).trans h
  · simp [T.run_fail] at h

def frx_v0 (u : Bool) : Bool := !u
def C_frx : FunT := fun args σ => match args, σ with
  | [AV.dat (D.agg [D.bool u, D.agg [D.int IntKind.i64 _, D.int IntKind.i64 _], D.agg [D.int IntKind.i64 _, D.int IntKind.i64 _], D.int IntKind.i64 _]), AV.ptr Sh.one 0 0 []], [{ sh := Sh.one, dyn := false, frz := false, v := AV.ptr (Sh.agg [Sh.one, Sh.one]) 1 0 [] }, { sh := Sh.agg [Sh.one, Sh.one], dyn := false, frz := false, v := AV.dat (D.agg [D.slc (Sh.agg [Sh.one, Sh.agg [Sh.one, Sh.one], Sh.agg [Sh.one, Sh.one], Sh.one]) ds, D.fn (Fn.func 41) [] []]) }] => .leaf ([AV.dat (D.bool (frx_v0 u))], [{ sh := Sh.one, dyn := false, frz := false, v := AV.ptr (Sh.agg [Sh.one, Sh.one]) (1 : Nat) (0 : Nat) [] }, { sh := Sh.agg [Sh.one, Sh.one], dyn := false, frz := false, v := AV.dat (D.agg [D.slc (Sh.agg [Sh.one, Sh.agg [Sh.one, Sh.one], Sh.agg [Sh.one, Sh.one], Sh.one]) ds, D.fn (Fn.func (41 : Nat)) [] []]) }])
  | _, _ => .fail
theorem frx_raw0 (u : Bool) (a b x y d : Int) (ds : List D) : runF (envOf tab [(41, C_tkx)] [] [] []) true Try.f50 [.dat (.agg [.bool u, .agg [.int .i64 a, .int .i64 b], .agg [.int .i64 x, .int .i64 y], .int .i64 d]), .ptr .one 0 0 []] [boxB 1, xrow ds] =some ([AV.dat (D.bool !u)], [{ sh := Sh.one, dyn := false, frz := false, v := AV.ptr (Sh.agg [Sh.one, Sh.one]) (1 : Nat) (0 : Nat) [] }, { sh := Sh.agg [Sh.one, Sh.one], dyn := false, frz := false, v := AV.dat (D.agg [D.slc (Sh.agg [Sh.one, Sh.agg [Sh.one, Sh.one], Sh.agg [Sh.one, Sh.one], Sh.one]) ds, D.fn (Fn.func (41 : Nat)) [] []]) }]) := by kernel_rfl
theorem frx_case0 (u : Bool) (a b x y d : Int) (ds : List D) : runF (envOf tab [(41, C_tkx)] [] [] []) true Try.f50 [.dat (.agg [.bool u, .agg [.int .i64 a, .int .i64 b], .agg [.int .i64 x, .int .i64 y], .int .i64 d]), .ptr .one 0 0 []] [boxB 1, xrow ds] = FunT.run C_frx [.dat (.agg [.bool u, .agg [.int .i64 a, .int .i64 b], .agg [.int .i64 x, .int .i64 y], .int .i64 d]), .ptr .one 0 0 []] [boxB 1, xrow ds] := (frx_raw0 u a b x y d ds).trans (by
  show _ = some (([AV.dat (D.bool !u)], [{ sh := Sh.one, dyn := false, frz := false, v := AV.ptr (Sh.agg [Sh.one, Sh.one]) (1 : Nat) (0 : Nat) [] }, { sh := Sh.agg [Sh.one, Sh.one], dyn := false, frz := false, v := AV.dat (D.agg [D.slc (Sh.agg [Sh.one, Sh.agg [Sh.one, Sh.one], Sh.agg [Sh.one, Sh.one], Sh.one]) ds, D.fn (Fn.func (41 : Nat)) [] []]) }]) : Res)
  rfl
  )
theorem cfrx_ok : FunOk Try.prog 50 (FunT.run C_frx) := by
  refine fun_ok (E := envOf tab [(41, C_tkx)] [] [] []) (fz := true) (fn := Try.f50) (envOf_ok progOk (.cons ctkx_ok (.nil _))) (by kernel_rfl) (by kernel_rfl) (loops_none (by kernel_rfl)) ?_
  intro args σ r h
  unfold C_frx at h
  split at h
  · exact (frx_case0 _ _ _ _ _ _ _).trans h
  · simp [T.run_fail] at h

abbrev ekX : Ek := .agg [.bool, .agg [.int .i64, .int .i64], .agg [.int .i64, .int .i64], .int .i64]
abbrev pI (d : D) (i : Nat) : Int := D.getI (nthD (D.getL d) i)
abbrev pR2 (d : D) (i j : Nat) : Int := D.getI (nthD (D.getL (nthD (D.getL d) i)) j)
def jx_fr (ls : List D) (n : Int) (_ : List D) : Int → Frame' := fun i => mkF 19 [(0, .dat (.slc (.agg [.one, .agg [.one, .one], .agg [.one, .one], .one]) ls)), (1, (.fn (.func 50) [] [.ptr .one 0 0 []])), (7, .dat (.int .i64 n)), (8, .dat (.int .i64 i))]
def jx_st (_ : List D) (_ : Int) (ds : List D) : Int → Store := fun _ => ([⟨.one, false, false, .ptr (.agg [.one, .one]) 1 0 []⟩, ⟨.agg [.one, .one], false, false, .dat (.agg [.slc (.agg [.one, .agg [.one, .one], .agg [.one, .one], .one]) ds, .fn (.func 41) [] []])⟩])
def jx_step (ls : List D) (n : Int) (ds : List D) : Int → T (Int ⊕ LOut) := fun i => 
  .br (decide (i < n)) (
   .chk (decide ((0 : Int) ≤ i)) (
    .chk (decide (Int.toNat i < List.length ls)) (
     .chk (okE (Ek.agg [Ek.bool, Ek.agg [Ek.int IntKind.i64, Ek.int IntKind.i64], Ek.agg [Ek.int IntKind.i64, Ek.int IntKind.i64], Ek.int IntKind.i64]) (nthD ls (Int.toNat i))) (
      .br (frx_v0 (D.getB (nthD (D.getL (nthD ls (Int.toNat i))) (0 : Nat)))) (.leaf (.inr (none, mkF (19 : Nat) [((4 : Nat), AV.dat (D.int IntKind.i64 i))], [{ sh := Sh.one, dyn := false, frz := false, v := AV.ptr (Sh.agg [Sh.one, Sh.one]) (1 : Nat) (0 : Nat) [] }, { sh := Sh.agg [Sh.one, Sh.one], dyn := false, frz := false, v := AV.dat (D.agg [D.slc (Sh.agg [Sh.one, Sh.agg [Sh.one, Sh.one], Sh.agg [Sh.one, Sh.one], Sh.one]) ds, D.fn (Fn.func (41 : Nat)) [] []]) }]))) (.leaf (.inl (IntKind.wrap IntKind.i64 (i + (1 : Int))))))))) (.leaf (.inr ((some (0 : Nat)), mkF (19 : Nat) [], [{ sh := Sh.one, dyn := false, frz := false, v := AV.ptr (Sh.agg [Sh.one, Sh.one]) (1 : Nat) (0 : Nat) [] }, { sh := Sh.agg [Sh.one, Sh.one], dyn := false, frz := false, v := AV.dat (D.agg [D.slc (Sh.agg [Sh.one, Sh.agg [Sh.one, Sh.one], Sh.agg [Sh.one, Sh.one], Sh.one]) ds, D.fn (Fn.func (41 : Nat)) [] []]) }])))
theorem jx_round (lp : Loops) (ls : List D) (n : Int) (ds : List D) (i : Int) (K : Kt) : oneRound (envOf tab ([(50, C_frx)]) [] lp []) Try.f38 0 (2) (mkF 19 [(0, .dat (.slc (.agg [.one, .agg [.one, .one], .agg [.one, .one], .one]) ls)), (1, (.fn (.func 50) [] [.ptr .one 0 0 []])), (7, .dat (.int .i64 n)), (8, .dat (.int .i64 i))]) (([⟨.one, false, false, .ptr (.agg [.one, .one]) 1 0 []⟩, ⟨.agg [.one, .one], false, false, .dat (.agg [.slc (.agg [.one, .agg [.one, .one], .agg [.one, .one], .one]) ds, .fn (.func 41) [] []])⟩])) K =
  (bif decide (i < n) then 
   (bif decide ((0 : Int) ≤ i) then 
    (bif decide (Int.toNat i < List.length ls) then 
     (bif okE (Ek.agg [Ek.bool, Ek.agg [Ek.int IntKind.i64, Ek.int IntKind.i64], Ek.agg [Ek.int IntKind.i64, Ek.int IntKind.i64], Ek.int IntKind.i64]) (nthD ls (Int.toNat i)) then 
      (bif frx_v0 (D.getB (nthD (D.getL (nthD ls (Int.toNat i))) (0 : Nat))) then K (Exit.ret) (mkF (19 : Nat) [((4 : Nat), AV.dat (D.int IntKind.i64 i))]) ([{ sh := Sh.one, dyn := false, frz := false, v := AV.ptr (Sh.agg [Sh.one, Sh.one]) (1 : Nat) (0 : Nat) [] }, { sh := Sh.agg [Sh.one, Sh.one], dyn := false, frz := false, v := AV.dat (D.agg [D.slc (Sh.agg [Sh.one, Sh.agg [Sh.one, Sh.one], Sh.agg [Sh.one, Sh.one], Sh.one]) ds, D.fn (Fn.func (41 : Nat)) [] []]) }]) else K (Exit.normal) (mkF (19 : Nat) [((0 : Nat), AV.dat (D.slc (Sh.agg [Sh.one, Sh.agg [Sh.one, Sh.one], Sh.agg [Sh.one, Sh.one], Sh.one]) ls)), ((1 : Nat), AV.fn (Fn.func (50 : Nat)) [] [AV.ptr Sh.one (0 : Nat) (0 : Nat) []]), ((7 : Nat), AV.dat (D.int IntKind.i64 n)), ((8 : Nat), AV.dat (D.int IntKind.i64 (IntKind.wrap IntKind.i64 (i + (1 : Int))))), ((9 : Nat), AV.dat (D.bool (decide (i < n)))), ((18 : Nat), AV.dat (D.int IntKind.i64 (IntKind.wrap IntKind.i64 (i + (1 : Int)))))]) ([{ sh := Sh.one, dyn := false, frz := false, v := AV.ptr (Sh.agg [Sh.one, Sh.one]) (1 : Nat) (0 : Nat) [] }, { sh := Sh.agg [Sh.one, Sh.one], dyn := false, frz := false, v := AV.dat (D.agg [D.slc (Sh.agg [Sh.one, Sh.agg [Sh.one, Sh.one], Sh.agg [Sh.one, Sh.one], Sh.one]) ds, D.fn (Fn.func (41 : Nat)) [] []]) }])) else none) else none) else none) else K (Exit.exit (0 : Nat)) (mkF (19 : Nat) []) ([{ sh := Sh.one, dyn := false, frz := false, v := AV.ptr (Sh.agg [Sh.one, Sh.one]) (1 : Nat) (0 : Nat) [] }, { sh := Sh.agg [Sh.one, Sh.one], dyn := false, frz := false, v := AV.dat (D.agg [D.slc (Sh.agg [Sh.one, Sh.agg [Sh.one, Sh.one], Sh.agg [Sh.one, Sh.one], Sh.one]) ds, D.fn (Fn.func (41 : Nat)) [] []]) }])) := by kernel_rfl
theorem jx_hr (lp : Loops) (ls : List D) (n : Int) (ds : List D) : ∀ (sA : Int) (K : Kt) (N : Int → Option Res), (∀ sB fr' σ', cleanF (liveAt Try.f38 0) 0 fr' = jx_fr ls n ds sB → trim (2) (jx_fr ls n ds sB) σ' = jx_st ls n ds sB → K .normal fr' σ' = N sB) →
    oneRound (envOf tab ([(50, C_frx)]) [] lp []) Try.f38 0 (2) (jx_fr ls n ds sA) (jx_st ls n ds sA) K = (jx_step ls n ds sA).k (LK K N) := by
  intro i K N hN
  exact (jx_round lp ls n ds i K).trans (cong2 (cong2 (cong2 (cong2 (cong2 rfl (hN (IntKind.wrap IntKind.i64 (i + (1 : Int))) _ _ (by kernel_rfl) (by kernel_rfl))) rfl) rfl) rfl) rfl)
theorem jx_enter (ls : List D) (n : Int) (ds : List D) (i : Int) (fr : Frame') (hl : Nat.beq fr.length 19 = true) (g0 : fr.getD 0 .undef = AV.dat (D.slc (Sh.agg [Sh.one, Sh.agg [Sh.one, Sh.one], Sh.agg [Sh.one, Sh.one], Sh.one]) ls)) (g1 : fr.getD 1 .undef = AV.fn (Fn.func 50) [] [AV.ptr Sh.one 0 0 []]) (g7 : fr.getD 7 .undef = AV.dat (D.int IntKind.i64 n)) (g8 : fr.getD 8 .undef = AV.dat (D.int IntKind.i64 i)) : cleanF (liveAt Try.f38 0) 0 fr = jx_fr ls n ds i := by
  have e : liveAt Try.f38 0 = [7, 1, 0, 8] := by kernel_rfl
  rw [clean_mk (Nat.eq_of_beq_eq_true hl), e]
  show mkF 19 [(7, fr.getD 7 .undef), (1, fr.getD 1 .undef), (0, fr.getD 0 .undef), (8, fr.getD 8 .undef)] = _
  rw [g7, g1, g0, g8]
  kernel_rfl

def jx_idx (_ : List D) (ls : List D) : Int := bif ls.any ((fun d => !usedD d)) then ((ls.findIdx ((fun d => !usedD d)) : Nat) : Int) else -1
def jx_okL (_ : List D) (ls : List D) : Bool := ls.all ((okE (.agg [.bool, .agg [.int .i64, .int .i64], .agg [.int .i64, .int .i64], .int .i64]))) && decide (ls.length ≤ 1099511627776)
theorem jx_closed (ls : List D) (n : Int) (ds : List D) (hc : (decide (n = (ls.length : Int)) && jx_okL ds ls) = true) :
    ∃ m, (iterT (jx_step ls n ds) m 0).run = T.run (.br (ls.any ((fun d => !usedD d))) (.leaf (none, mkF 19 [(4, .dat (.int .i64 (ls.findIdx ((fun d => !usedD d)) : Nat)))], ([⟨.one, false, false, .ptr (.agg [.one, .one]) 1 0 []⟩, ⟨.agg [.one, .one], false, false, .dat (.agg [.slc (.agg [.one, .agg [.one, .one], .agg [.one, .one], .one]) ds, .fn (.func 41) [] []])⟩]))) (.leaf (some 0, mkF 19 [], ([⟨.one, false, false, .ptr (.agg [.one, .one]) 1 0 []⟩, ⟨.agg [.one, .one], false, false, .dat (.agg [.slc (.agg [.one, .agg [.one, .one], .agg [.one, .one], .one]) ds, .fn (.func 41) [] []])⟩])))) := by
  unfold jx_okL at hc
  simp only [Bool.and_eq_true, decide_eq_true_eq] at hc
  obtain ⟨rfl, h1, h2⟩ := hc
  obtain ⟨m, hm⟩ := iter_find (step := jx_step ls ls.length ds) (ls := ls) (p := (fun d => !usedD d)) (o := fun k => (none, mkF 19 [(4, .dat (.int .i64 (k : Int)))], ([⟨.one, false, false, .ptr (.agg [.one, .one]) 1 0 []⟩, ⟨.agg [.one, .one], false, false, .dat (.agg [.slc (.agg [.one, .agg [.one, .one], .agg [.one, .one], .one]) ds, .fn (.func 41) [] []])⟩]))) (o' := (some 0, mkF 19 [], ([⟨.one, false, false, .ptr (.agg [.one, .one]) 1 0 []⟩, ⟨.agg [.one, .one], false, false, .dat (.agg [.slc (.agg [.one, .agg [.one, .one], .agg [.one, .one], .one]) ds, .fn (.func 41) [] []])⟩])))
    (fun k hk => by
      have hq := List.all_eq_true.1 h1 _ (nthD_mem hk)
      try simp only [Bool.and_eq_true] at hq
      unfold jx_step
      simp only [decide_eq_true (show (k : Int) < (ls.length : Int) by omega), decide_eq_true (show (0 : Int) ≤ (k : Int) by omega), Int.toNat_natCast, decide_eq_true hk, hq, wrap_succ (show k < 2 ^ 62 by omega), T.run_br, T.run_chk, T.run_leaf, cond_true]
      exact bif_some (((fun d => !usedD d)) (nthD ls k)) _ _)
    (by
      unfold jx_step
      rw [decide_eq_false (show ¬ (ls.length : Int) < (ls.length : Int) by omega)]
      rfl)
  refine ⟨m, hm.trans ?_⟩
  cases ls.any ((fun d => !usedD d)) <;> rfl

def L_jx : Frame' → Store → T (Exit × Frame' × Store) := fun fr σ => match fr.getD 0 .undef, fr.getD 1 .undef, fr.getD 7 .undef, fr.getD 8 .undef, σ with
  | AV.dat (D.slc (Sh.agg [Sh.one, Sh.agg [Sh.one, Sh.one], Sh.agg [Sh.one, Sh.one], Sh.one]) ls), AV.fn (Fn.func 50) [] [AV.ptr Sh.one 0 0 []], AV.dat (D.int IntKind.i64 n), AV.dat (D.int IntKind.i64 0), [{ sh := Sh.one, dyn := false, frz := false, v := AV.ptr (Sh.agg [Sh.one, Sh.one]) 1 0 [] }, { sh := Sh.agg [Sh.one, Sh.one], dyn := false, frz := false, v := AV.dat (D.agg [D.slc (Sh.agg [Sh.one, Sh.agg [Sh.one, Sh.one], Sh.agg [Sh.one, Sh.one], Sh.one]) ds, D.fn (Fn.func 41) [] []]) }] => .chk (Nat.beq fr.length 19 && (decide (n = (ls.length : Int)) && jx_okL ds ls)) (T.bind (.br (ls.any ((fun d => !usedD d))) (.leaf (none, mkF 19 [(4, .dat (.int .i64 (ls.findIdx ((fun d => !usedD d)) : Nat)))], ([⟨.one, false, false, .ptr (.agg [.one, .one]) 1 0 []⟩, ⟨.agg [.one, .one], false, false, .dat (.agg [.slc (.agg [.one, .agg [.one, .one], .agg [.one, .one], .one]) ds, .fn (.func 41) [] []])⟩]))) (.leaf (some 0, mkF 19 [], ([⟨.one, false, false, .ptr (.agg [.one, .one]) 1 0 []⟩, ⟨.agg [.one, .one], false, false, .dat (.agg [.slc (.agg [.one, .agg [.one, .one], .agg [.one, .one], .one]) ds, .fn (.func 41) [] []])⟩])))) fun o => .leaf (outEx o.1, o.2.1, o.2.2))
  | _, _, _, _, _ => .fail
theorem jx_sem (lp : Loops) : ∀ fr σ p, (L_jx fr σ).run = some p → ∀ (K : Kt) r, K p.1 p.2.1 p.2.2 = some r → ∃ n, loopRun (envOf tab ([(50, C_frx)]) [] lp []) Try.f38 0 σ.length n (cleanF (liveAt Try.f38 0) 0 fr) σ K = some r := by
  intro fr σ p h K r hK
  unfold L_jx at h
  split at h
  · rename_i ls n ds g0 g1 g7 g8
    obtain ⟨hc, h'⟩ := T.chk_some h
    rw [Bool.and_eq_true] at hc
    obtain ⟨hl, hc⟩ := hc
    obtain ⟨o, ho, h'⟩ := T.bind_some h'
    have hp := T.leaf_some h'
    subst hp
    obtain ⟨nF, hn⟩ : ∃ nF, (iterT (jx_step ls n ds) nF (0)).run = T.run (.br (ls.any ((fun d => !usedD d))) (.leaf (none, mkF 19 [(4, .dat (.int .i64 (ls.findIdx ((fun d => !usedD d)) : Nat)))], ([⟨.one, false, false, .ptr (.agg [.one, .one]) 1 0 []⟩, ⟨.agg [.one, .one], false, false, .dat (.agg [.slc (.agg [.one, .agg [.one, .one], .agg [.one, .one], .one]) ds, .fn (.func 41) [] []])⟩]))) (.leaf (some 0, mkF 19 [], ([⟨.one, false, false, .ptr (.agg [.one, .one]) 1 0 []⟩, ⟨.agg [.one, .one], false, false, .dat (.agg [.slc (.agg [.one, .agg [.one, .one], .agg [.one, .one], .one]) ds, .fn (.func 41) [] []])⟩])))) := jx_closed ls n ds hc
    rw [ho] at hn
    refine ⟨nF, ?_⟩
    have he : cleanF (liveAt Try.f38 0) 0 fr = jx_fr ls n ds (0) := jx_enter ls n ds _ fr hl g0 g1 g7 g8
    refine (iter_ok (base := 2) (jx_hr lp ls n ds) K nF (0) _ _ (by rw [clean_clean]; exact he) (by kernel_rfl)).trans ?_
    rw [T.k_run hn]
    exact hK
  · simp [T.run_fail] at h
theorem jx_loopOk (lp : Loops) (hk : Loops.get lp 2 = some L_jx) : LoopOk (envOf tab ([(50, C_frx)]) [] lp []) (loopAt Try.f38 0).1 (loopAt Try.f38 0).2 := loop_ok (L := L_jx) hk (jx_sem lp)


def S_jx : FunT := fun args σ => match args, σ with
  | [AV.dat (D.slc (Sh.agg [Sh.one, Sh.agg [Sh.one, Sh.one], Sh.agg [Sh.one, Sh.one], Sh.one]) ls), AV.fn (Fn.func 50) [] [AV.ptr Sh.one 0 0 []]], [{ sh := Sh.one, dyn := false, frz := false, v := AV.ptr (Sh.agg [Sh.one, Sh.one]) 1 0 [] }, { sh := Sh.agg [Sh.one, Sh.one], dyn := false, frz := false, v := AV.dat (D.agg [D.slc (Sh.agg [Sh.one, Sh.agg [Sh.one, Sh.one], Sh.agg [Sh.one, Sh.one], Sh.one]) ds, D.fn (Fn.func 41) [] []]) }] => 
    .chk (decide ((↑(List.length ls) : Int) = (↑(List.length ls) : Int)) && jx_okL ds ls) (.leaf ([AV.dat (D.int IntKind.i64 (bif List.any ls fun d => !usedD d then (↑(List.findIdx (fun d => !usedD d) ls) : Int) else (-1 : Int)))], [{ sh := Sh.one, dyn := false, frz := false, v := AV.ptr (Sh.agg [Sh.one, Sh.one]) (1 : Nat) (0 : Nat) [] }, { sh := Sh.agg [Sh.one, Sh.one], dyn := false, frz := false, v := AV.dat (D.agg [D.slc (Sh.agg [Sh.one, Sh.agg [Sh.one, Sh.one], Sh.agg [Sh.one, Sh.one], Sh.one]) ds, D.fn (Fn.func (41 : Nat)) [] []]) }]))
  | _, _ => .fail
theorem jx_raw0 (ls : List D) (ds : List D) : runF (envOf tab ([(50, C_frx)]) [] [(2, L_jx)] []) true Try.f38 [.dat (.slc (.agg [.one, .agg [.one, .one], .agg [.one, .one], .one]) ls), (.fn (.func 50) [] [.ptr .one 0 0 []])] ([⟨.one, false, false, .ptr (.agg [.one, .one]) 1 0 []⟩, ⟨.agg [.one, .one], false, false, .dat (.agg [.slc (.agg [.one, .agg [.one, .one], .agg [.one, .one], .one]) ds, .fn (.func 41) [] []])⟩]) =
  (bif decide ((↑(List.length ls) : Int) = (↑(List.length ls) : Int)) && jx_okL ds ls then 
   (bif List.any ls fun d => !usedD d then some ([AV.dat (D.int IntKind.i64 (↑(List.findIdx (fun d => !usedD d) ls) : Int))], [{ sh := Sh.one, dyn := false, frz := false, v := AV.ptr (Sh.agg [Sh.one, Sh.one]) (1 : Nat) (0 : Nat) [] }, { sh := Sh.agg [Sh.one, Sh.one], dyn := false, frz := false, v := AV.dat (D.agg [D.slc (Sh.agg [Sh.one, Sh.agg [Sh.one, Sh.one], Sh.agg [Sh.one, Sh.one], Sh.one]) ds, D.fn (Fn.func (41 : Nat)) [] []]) }]) else some ([AV.dat (D.int IntKind.i64 (-1 : Int))], [{ sh := Sh.one, dyn := false, frz := false, v := AV.ptr (Sh.agg [Sh.one, Sh.one]) (1 : Nat) (0 : Nat) [] }, { sh := Sh.agg [Sh.one, Sh.one], dyn := false, frz := false, v := AV.dat (D.agg [D.slc (Sh.agg [Sh.one, Sh.agg [Sh.one, Sh.one], Sh.agg [Sh.one, Sh.one], Sh.one]) ds, D.fn (Fn.func (41 : Nat)) [] []]) }])) else none) := by kernel_rfl
theorem jx_case0 (ls : List D) (ds : List D) : runF (envOf tab ([(50, C_frx)]) [] [(2, L_jx)] []) true Try.f38 [.dat (.slc (.agg [.one, .agg [.one, .one], .agg [.one, .one], .one]) ls), (.fn (.func 50) [] [.ptr .one 0 0 []])] ([⟨.one, false, false, .ptr (.agg [.one, .one]) 1 0 []⟩, ⟨.agg [.one, .one], false, false, .dat (.agg [.slc (.agg [.one, .agg [.one, .one], .agg [.one, .one], .one]) ds, .fn (.func 41) [] []])⟩]) = FunT.run S_jx [.dat (.slc (.agg [.one, .agg [.one, .one], .agg [.one, .one], .one]) ls), (.fn (.func 50) [] [.ptr .one 0 0 []])] ([⟨.one, false, false, .ptr (.agg [.one, .one]) 1 0 []⟩, ⟨.agg [.one, .one], false, false, .dat (.agg [.slc (.agg [.one, .agg [.one, .one], .agg [.one, .one], .one]) ds, .fn (.func 41) [] []])⟩]) := (jx_raw0 ls ds).trans (cong2 (cond_cases (fun h0 => (by (try rw [h0]) <;> rfl)) (fun h0 => (by (try rw [h0]) <;> rfl))) rfl)
theorem jx_ok : FunOk Try.prog 38 (FunT.run S_jx) := by
  refine fun_ok (E := envOf tab ([(50, C_frx)]) [] [(2, L_jx)] []) (fz := true) (fn := Try.f38) (envOf_ok progOk (.cons cfrx_ok (.nil _))) (by kernel_rfl) (by kernel_rfl) (loops_one (by kernel_rfl) (jx_loopOk _ rfl)) ?_
  intro args σ r h
  unfold S_jx at h
  split at h
  · exact (jx_case0 _ _).trans h
  · simp [T.run_fail] at h

def C_jx : FunT := fun args σ => match args, σ with
  | [.dat (.slc (.agg [.one, .agg [.one, .one], .agg [.one, .one], .one]) ls), (.fn (.func 50) [] [.ptr .one 0 0 []])], ([⟨.one, false, false, .ptr (.agg [.one, .one]) 1 0 []⟩, ⟨.agg [.one, .one], false, false, .dat (.agg [.slc (.agg [.one, .agg [.one, .one], .agg [.one, .one], .one]) ds, .fn (.func 41) [] []])⟩]) => .chk (jx_okL ds ls) (.leaf ([.dat (.int .i64 (jx_idx ds ls))], ([⟨.one, false, false, .ptr (.agg [.one, .one]) 1 0 []⟩, ⟨.agg [.one, .one], false, false, .dat (.agg [.slc (.agg [.one, .agg [.one, .one], .agg [.one, .one], .one]) ds, .fn (.func 41) [] []])⟩])))
  | _, _ => .fail
theorem cjx_ok : FunOk Try.prog 38 (FunT.run C_jx) := jx_ok.of (by
  intro args σ r h
  unfold C_jx at h
  split at h
  · rename_i ls ds
    obtain ⟨hc, h'⟩ := T.chk_some h
    rw [← T.leaf_some h']
    unfold S_jx jx_idx
    simp only [hc, decide_true, Bool.and_true, T.run_chk, T.run_leaf, cond_true]
    all_goals (cases ls.any ((fun d => !usedD d)) <;> rfl)
  · simp [T.run_fail] at h)
def ix_fr (ls : List D) (n : Int) (_ _ _ : Int) : Int → Frame' := fun i => mkF 19 [(0, .dat (.slc (.agg [.one, .agg [.one, .one], .agg [.one, .one], .one]) ls)), (1, (.fn (.func 39) [] [.ptr (.agg [.one, .one]) 0 0 [], .ptr .one 1 0 []])), (7, .dat (.int .i64 n)), (8, .dat (.int .i64 i))]
def ix_st (_ : List D) (_ : Int) (fa fb fd : Int) : Int → Store := fun _ => ([⟨.agg [.one, .one], false, false, .dat (.agg [.int .i64 fa, .int .i64 fb])⟩, ⟨.one, false, false, .dat (.int .i64 fd)⟩])
def ix_step (ls : List D) (n : Int) (fa fb fd : Int) : Int → T (Int ⊕ LOut) := fun i => 
  .br (decide (i < n)) (
   .chk (decide ((0 : Int) ≤ i)) (
    .chk (decide (Int.toNat i < List.length ls)) (
     .chk (okE (Ek.agg [Ek.bool, Ek.agg [Ek.int IntKind.i64, Ek.int IntKind.i64], Ek.agg [Ek.int IntKind.i64, Ek.int IntKind.i64], Ek.int IntKind.i64]) (nthD ls (Int.toNat i))) (
      .br (ix1_v0 (D.getB (nthD (D.getL (nthD ls (Int.toNat i))) (0 : Nat))) (D.getI (nthD (D.getL (nthD (D.getL (nthD ls (Int.toNat i))) (1 : Nat))) (0 : Nat))) (D.getI (nthD (D.getL (nthD (D.getL (nthD ls (Int.toNat i))) (1 : Nat))) (1 : Nat))) (D.getI (nthD (D.getL (nthD ls (Int.toNat i))) (3 : Nat))) fa fb fd) (.leaf (.inr (none, mkF (19 : Nat) [((4 : Nat), AV.dat (D.int IntKind.i64 i))], [{ sh := Sh.agg [Sh.one, Sh.one], dyn := false, frz := false, v := AV.dat (D.agg [D.int IntKind.i64 fa, D.int IntKind.i64 fb]) }, { sh := Sh.one, dyn := false, frz := false, v := AV.dat (D.int IntKind.i64 fd) }]))) (.leaf (.inl (IntKind.wrap IntKind.i64 (i + (1 : Int))))))))) (.leaf (.inr ((some (0 : Nat)), mkF (19 : Nat) [], [{ sh := Sh.agg [Sh.one, Sh.one], dyn := false, frz := false, v := AV.dat (D.agg [D.int IntKind.i64 fa, D.int IntKind.i64 fb]) }, { sh := Sh.one, dyn := false, frz := false, v := AV.dat (D.int IntKind.i64 fd) }])))
theorem ix_round (lp : Loops) (ls : List D) (n : Int) (fa fb fd : Int) (i : Int) (K : Kt) : oneRound (envOf tab ([(39, C_ix1)]) [] lp []) Try.f38 0 (2) (mkF 19 [(0, .dat (.slc (.agg [.one, .agg [.one, .one], .agg [.one, .one], .one]) ls)), (1, (.fn (.func 39) [] [.ptr (.agg [.one, .one]) 0 0 [], .ptr .one 1 0 []])), (7, .dat (.int .i64 n)), (8, .dat (.int .i64 i))]) (([⟨.agg [.one, .one], false, false, .dat (.agg [.int .i64 fa, .int .i64 fb])⟩, ⟨.one, false, false, .dat (.int .i64 fd)⟩])) K =
  (bif decide (i < n) then 
   (bif decide ((0 : Int) ≤ i) then 
    (bif decide (Int.toNat i < List.length ls) then 
     (bif okE (Ek.agg [Ek.bool, Ek.agg [Ek.int IntKind.i64, Ek.int IntKind.i64], Ek.agg [Ek.int IntKind.i64, Ek.int IntKind.i64], Ek.int IntKind.i64]) (nthD ls (Int.toNat i)) then 
      (bif ix1_v0 (D.getB (nthD (D.getL (nthD ls (Int.toNat i))) (0 : Nat))) (D.getI (nthD (D.getL (nthD (D.getL (nthD ls (Int.toNat i))) (1 : Nat))) (0 : Nat))) (D.getI (nthD (D.getL (nthD (D.getL (nthD ls (Int.toNat i))) (1 : Nat))) (1 : Nat))) (D.getI (nthD (D.getL (nthD ls (Int.toNat i))) (3 : Nat))) fa fb fd then K (Exit.ret) (mkF (19 : Nat) [((4 : Nat), AV.dat (D.int IntKind.i64 i))]) ([{ sh := Sh.agg [Sh.one, Sh.one], dyn := false, frz := false, v := AV.dat (D.agg [D.int IntKind.i64 fa, D.int IntKind.i64 fb]) }, { sh := Sh.one, dyn := false, frz := false, v := AV.dat (D.int IntKind.i64 fd) }]) else K (Exit.normal) (mkF (19 : Nat) [((0 : Nat), AV.dat (D.slc (Sh.agg [Sh.one, Sh.agg [Sh.one, Sh.one], Sh.agg [Sh.one, Sh.one], Sh.one]) ls)), ((1 : Nat), AV.fn (Fn.func (39 : Nat)) [] [AV.ptr (Sh.agg [Sh.one, Sh.one]) (0 : Nat) (0 : Nat) [], AV.ptr Sh.one (1 : Nat) (0 : Nat) []]), ((7 : Nat), AV.dat (D.int IntKind.i64 n)), ((8 : Nat), AV.dat (D.int IntKind.i64 (IntKind.wrap IntKind.i64 (i + (1 : Int))))), ((9 : Nat), AV.dat (D.bool (decide (i < n)))), ((18 : Nat), AV.dat (D.int IntKind.i64 (IntKind.wrap IntKind.i64 (i + (1 : Int)))))]) ([{ sh := Sh.agg [Sh.one, Sh.one], dyn := false, frz := false, v := AV.dat (D.agg [D.int IntKind.i64 fa, D.int IntKind.i64 fb]) }, { sh := Sh.one, dyn := false, frz := false, v := AV.dat (D.int IntKind.i64 fd) }])) else none) else none) else none) else K (Exit.exit (0 : Nat)) (mkF (19 : Nat) []) ([{ sh := Sh.agg [Sh.one, Sh.one], dyn := false, frz := false, v := AV.dat (D.agg [D.int IntKind.i64 fa, D.int IntKind.i64 fb]) }, { sh := Sh.one, dyn := false, frz := false, v := AV.dat (D.int IntKind.i64 fd) }])) := by kernel_rfl
theorem ix_hr (lp : Loops) (ls : List D) (n : Int) (fa fb fd : Int) : ∀ (sA : Int) (K : Kt) (N : Int → Option Res), (∀ sB fr' σ', cleanF (liveAt Try.f38 0) 0 fr' = ix_fr ls n fa fb fd sB → trim (2) (ix_fr ls n fa fb fd sB) σ' = ix_st ls n fa fb fd sB → K .normal fr' σ' = N sB) →
    oneRound (envOf tab ([(39, C_ix1)]) [] lp []) Try.f38 0 (2) (ix_fr ls n fa fb fd sA) (ix_st ls n fa fb fd sA) K = (ix_step ls n fa fb fd sA).k (LK K N) := by
  intro i K N hN
  exact (ix_round lp ls n fa fb fd i K).trans (cong2 (cong2 (cong2 (cong2 (cong2 rfl (hN (IntKind.wrap IntKind.i64 (i + (1 : Int))) _ _ (by kernel_rfl) (by kernel_rfl))) rfl) rfl) rfl) rfl)
theorem ix_enter (ls : List D) (n : Int) (fa fb fd : Int) (i : Int) (fr : Frame') (hl : Nat.beq fr.length 19 = true) (g0 : fr.getD 0 .undef = AV.dat (D.slc (Sh.agg [Sh.one, Sh.agg [Sh.one, Sh.one], Sh.agg [Sh.one, Sh.one], Sh.one]) ls)) (g1 : fr.getD 1 .undef = AV.fn (Fn.func 39) [] [AV.ptr (Sh.agg [Sh.one, Sh.one]) 0 0 [], AV.ptr Sh.one 1 0 []]) (g7 : fr.getD 7 .undef = AV.dat (D.int IntKind.i64 n)) (g8 : fr.getD 8 .undef = AV.dat (D.int IntKind.i64 i)) : cleanF (liveAt Try.f38 0) 0 fr = ix_fr ls n fa fb fd i := by
  have e : liveAt Try.f38 0 = [7, 1, 0, 8] := by kernel_rfl
  rw [clean_mk (Nat.eq_of_beq_eq_true hl), e]
  show mkF 19 [(7, fr.getD 7 .undef), (1, fr.getD 1 .undef), (0, fr.getD 0 .undef), (8, fr.getD 8 .undef)] = _
  rw [g7, g1, g0, g8]
  kernel_rfl

def ix_idx (fa fb fd : Int) (ls : List D) : Int := bif ls.any ((fun d => ix1_v0 (usedD d) (pR2 d 1 0) (pR2 d 1 1) (pI d 3) fa fb fd)) then ((ls.findIdx ((fun d => ix1_v0 (usedD d) (pR2 d 1 0) (pR2 d 1 1) (pI d 3) fa fb fd)) : Nat) : Int) else -1
def ix_okL (_ _ _ : Int) (ls : List D) : Bool := ls.all ((okE (.agg [.bool, .agg [.int .i64, .int .i64], .agg [.int .i64, .int .i64], .int .i64]))) && decide (ls.length ≤ 1099511627776)
theorem ix_closed (ls : List D) (n : Int) (fa fb fd : Int) (hc : (decide (n = (ls.length : Int)) && ix_okL fa fb fd ls) = true) :
    ∃ m, (iterT (ix_step ls n fa fb fd) m 0).run = T.run (.br (ls.any ((fun d => ix1_v0 (usedD d) (pR2 d 1 0) (pR2 d 1 1) (pI d 3) fa fb fd))) (.leaf (none, mkF 19 [(4, .dat (.int .i64 (ls.findIdx ((fun d => ix1_v0 (usedD d) (pR2 d 1 0) (pR2 d 1 1) (pI d 3) fa fb fd)) : Nat)))], ([⟨.agg [.one, .one], false, false, .dat (.agg [.int .i64 fa, .int .i64 fb])⟩, ⟨.one, false, false, .dat (.int .i64 fd)⟩]))) (.leaf (some 0, mkF 19 [], ([⟨.agg [.one, .one], false, false, .dat (.agg [.int .i64 fa, .int .i64 fb])⟩, ⟨.one, false, false, .dat (.int .i64 fd)⟩])))) := by
  unfold ix_okL at hc
  simp only [Bool.and_eq_true, decide_eq_true_eq] at hc
  obtain ⟨rfl, h1, h2⟩ := hc
  obtain ⟨m, hm⟩ := iter_find (step := ix_step ls ls.length fa fb fd) (ls := ls) (p := (fun d => ix1_v0 (usedD d) (pR2 d 1 0) (pR2 d 1 1) (pI d 3) fa fb fd)) (o := fun k => (none, mkF 19 [(4, .dat (.int .i64 (k : Int)))], ([⟨.agg [.one, .one], false, false, .dat (.agg [.int .i64 fa, .int .i64 fb])⟩, ⟨.one, false, false, .dat (.int .i64 fd)⟩]))) (o' := (some 0, mkF 19 [], ([⟨.agg [.one, .one], false, false, .dat (.agg [.int .i64 fa, .int .i64 fb])⟩, ⟨.one, false, false, .dat (.int .i64 fd)⟩])))
    (fun k hk => by
      have hq := List.all_eq_true.1 h1 _ (nthD_mem hk)
      try simp only [Bool.and_eq_true] at hq
      unfold ix_step
      simp only [decide_eq_true (show (k : Int) < (ls.length : Int) by omega), decide_eq_true (show (0 : Int) ≤ (k : Int) by omega), Int.toNat_natCast, decide_eq_true hk, hq, wrap_succ (show k < 2 ^ 62 by omega), T.run_br, T.run_chk, T.run_leaf, cond_true]
      exact bif_some (((fun d => ix1_v0 (usedD d) (pR2 d 1 0) (pR2 d 1 1) (pI d 3) fa fb fd)) (nthD ls k)) _ _)
    (by
      unfold ix_step
      rw [decide_eq_false (show ¬ (ls.length : Int) < (ls.length : Int) by omega)]
      rfl)
  refine ⟨m, hm.trans ?_⟩
  cases ls.any ((fun d => ix1_v0 (usedD d) (pR2 d 1 0) (pR2 d 1 1) (pI d 3) fa fb fd)) <;> rfl

def L_ix : Frame' → Store → T (Exit × Frame' × Store) := fun fr σ => match fr.getD 0 .undef, fr.getD 1 .undef, fr.getD 7 .undef, fr.getD 8 .undef, σ with
  | AV.dat (D.slc (Sh.agg [Sh.one, Sh.agg [Sh.one, Sh.one], Sh.agg [Sh.one, Sh.one], Sh.one]) ls), AV.fn (Fn.func 39) [] [AV.ptr (Sh.agg [Sh.one, Sh.one]) 0 0 [], AV.ptr Sh.one 1 0 []], AV.dat (D.int IntKind.i64 n), AV.dat (D.int IntKind.i64 0), [{ sh := Sh.agg [Sh.one, Sh.one], dyn := false, frz := false, v := AV.dat (D.agg [D.int IntKind.i64 fa, D.int IntKind.i64 fb]) }, { sh := Sh.one, dyn := false, frz := false, v := AV.dat (D.int IntKind.i64 fd) }] => .chk (Nat.beq fr.length 19 && (decide (n = (ls.length : Int)) && ix_okL fa fb fd ls)) (T.bind (.br (ls.any ((fun d => ix1_v0 (usedD d) (pR2 d 1 0) (pR2 d 1 1) (pI d 3) fa fb fd))) (.leaf (none, mkF 19 [(4, .dat (.int .i64 (ls.findIdx ((fun d => ix1_v0 (usedD d) (pR2 d 1 0) (pR2 d 1 1) (pI d 3) fa fb fd)) : Nat)))], ([⟨.agg [.one, .one], false, false, .dat (.agg [.int .i64 fa, .int .i64 fb])⟩, ⟨.one, false, false, .dat (.int .i64 fd)⟩]))) (.leaf (some 0, mkF 19 [], ([⟨.agg [.one, .one], false, false, .dat (.agg [.int .i64 fa, .int .i64 fb])⟩, ⟨.one, false, false, .dat (.int .i64 fd)⟩])))) fun o => .leaf (outEx o.1, o.2.1, o.2.2))
  | _, _, _, _, _ => .fail
theorem ix_sem (lp : Loops) : ∀ fr σ p, (L_ix fr σ).run = some p → ∀ (K : Kt) r, K p.1 p.2.1 p.2.2 = some r → ∃ n, loopRun (envOf tab ([(39, C_ix1)]) [] lp []) Try.f38 0 σ.length n (cleanF (liveAt Try.f38 0) 0 fr) σ K = some r := by
  intro fr σ p h K r hK
  unfold L_ix at h
  split at h
  · rename_i ls n fa fb fd g0 g1 g7 g8
    obtain ⟨hc, h'⟩ := T.chk_some h
    rw [Bool.and_eq_true] at hc
    obtain ⟨hl, hc⟩ := hc
    obtain ⟨o, ho, h'⟩ := T.bind_some h'
    have hp := T.leaf_some h'
    subst hp
    obtain ⟨nF, hn⟩ : ∃ nF, (iterT (ix_step ls n fa fb fd) nF (0)).run = T.run (.br (ls.any ((fun d => ix1_v0 (usedD d) (pR2 d 1 0) (pR2 d 1 1) (pI d 3) fa fb fd))) (.leaf (none, mkF 19 [(4, .dat (.int .i64 (ls.findIdx ((fun d => ix1_v0 (usedD d) (pR2 d 1 0) (pR2 d 1 1) (pI d 3) fa fb fd)) : Nat)))], ([⟨.agg [.one, .one], false, false, .dat (.agg [.int .i64 fa, .int .i64 fb])⟩, ⟨.one, false, false, .dat (.int .i64 fd)⟩]))) (.leaf (some 0, mkF 19 [], ([⟨.agg [.one, .one], false, false, .dat (.agg [.int .i64 fa, .int .i64 fb])⟩, ⟨.one, false, false, .dat (.int .i64 fd)⟩])))) := ix_closed ls n fa fb fd hc
    rw [ho] at hn
    refine ⟨nF, ?_⟩
    have he : cleanF (liveAt Try.f38 0) 0 fr = ix_fr ls n fa fb fd (0) := ix_enter ls n fa fb fd _ fr hl g0 g1 g7 g8
    refine (iter_ok (base := 2) (ix_hr lp ls n fa fb fd) K nF (0) _ _ (by rw [clean_clean]; exact he) (by kernel_rfl)).trans ?_
    rw [T.k_run hn]
    exact hK
  · simp [T.run_fail] at h
theorem ix_loopOk (lp : Loops) (hk : Loops.get lp 2 = some L_ix) : LoopOk (envOf tab ([(39, C_ix1)]) [] lp []) (loopAt Try.f38 0).1 (loopAt Try.f38 0).2 := loop_ok (L := L_ix) hk (ix_sem lp)


def S_ix : FunT := fun args σ => match args, σ with
  | [AV.dat (D.slc (Sh.agg [Sh.one, Sh.agg [Sh.one, Sh.one], Sh.agg [Sh.one, Sh.one], Sh.one]) ls), AV.fn (Fn.func 39) [] [AV.ptr (Sh.agg [Sh.one, Sh.one]) 0 0 [], AV.ptr Sh.one 1 0 []]], [{ sh := Sh.agg [Sh.one, Sh.one], dyn := false, frz := false, v := AV.dat (D.agg [D.int IntKind.i64 fa, D.int IntKind.i64 fb]) }, { sh := Sh.one, dyn := false, frz := false, v := AV.dat (D.int IntKind.i64 fd) }] => 
    .chk (decide ((↑(List.length ls) : Int) = (↑(List.length ls) : Int)) && ix_okL fa fb fd ls) (.leaf ([AV.dat (D.int IntKind.i64 (bif List.any ls fun d => ix1_v0 (usedD d) (pR2 d (1 : Nat) (0 : Nat)) (pR2 d (1 : Nat) (1 : Nat)) (pI d (3 : Nat)) fa fb fd then (↑(List.findIdx (fun d => ix1_v0 (usedD d) (pR2 d (1 : Nat) (0 : Nat)) (pR2 d (1 : Nat) (1 : Nat)) (pI d (3 : Nat)) fa fb fd) ls) : Int) else (-1 : Int)))], [{ sh := Sh.agg [Sh.one, Sh.one], dyn := false, frz := false, v := AV.dat (D.agg [D.int IntKind.i64 fa, D.int IntKind.i64 fb]) }, { sh := Sh.one, dyn := false, frz := false, v := AV.dat (D.int IntKind.i64 fd) }]))
  | _, _ => .fail
theorem ix_raw0 (ls : List D) (fa fb fd : Int) : runF (envOf tab ([(39, C_ix1)]) [] [(2, L_ix)] []) true Try.f38 [.dat (.slc (.agg [.one, .agg [.one, .one], .agg [.one, .one], .one]) ls), (.fn (.func 39) [] [.ptr (.agg [.one, .one]) 0 0 [], .ptr .one 1 0 []])] ([⟨.agg [.one, .one], false, false, .dat (.agg [.int .i64 fa, .int .i64 fb])⟩, ⟨.one, false, false, .dat (.int .i64 fd)⟩]) =
  (bif decide ((↑(List.length ls) : Int) = (↑(List.length ls) : Int)) && ix_okL fa fb fd ls then 
   (bif List.any ls fun d => ix1_v0 (usedD d) (pR2 d (1 : Nat) (0 : Nat)) (pR2 d (1 : Nat) (1 : Nat)) (pI d (3 : Nat)) fa fb fd then some ([AV.dat (D.int IntKind.i64 (↑(List.findIdx (fun d => ix1_v0 (usedD d) (pR2 d (1 : Nat) (0 : Nat)) (pR2 d (1 : Nat) (1 : Nat)) (pI d (3 : Nat)) fa fb fd) ls) : Int))], [{ sh := Sh.agg [Sh.one, Sh.one], dyn := false, frz := false, v := AV.dat (D.agg [D.int IntKind.i64 fa, D.int IntKind.i64 fb]) }, { sh := Sh.one, dyn := false, frz := false, v := AV.dat (D.int IntKind.i64 fd) }]) else some ([AV.dat (D.int IntKind.i64 (-1 : Int))], [{ sh := Sh.agg [Sh.one, Sh.one], dyn := false, frz := false, v := AV.dat (D.agg [D.int IntKind.i64 fa, D.int IntKind.i64 fb]) }, { sh := Sh.one, dyn := false, frz := false, v := AV.dat (D.int IntKind.i64 fd) }])) else none) := by kernel_rfl
theorem ix_case0 (ls : List D) (fa fb fd : Int) : runF (envOf tab ([(39, C_ix1)]) [] [(2, L_ix)] []) true Try.f38 [.dat (.slc (.agg [.one, .agg [.one, .one], .agg [.one, .one], .one]) ls), (.fn (.func 39) [] [.ptr (.agg [.one, .one]) 0 0 [], .ptr .one 1 0 []])] ([⟨.agg [.one, .one], false, false, .dat (.agg [.int .i64 fa, .int .i64 fb])⟩, ⟨.one, false, false, .dat (.int .i64 fd)⟩]) = FunT.run S_ix [.dat (.slc (.agg [.one, .agg [.one, .one], .agg [.one, .one], .one]) ls), (.fn (.func 39) [] [.ptr (.agg [.one, .one]) 0 0 [], .ptr .one 1 0 []])] ([⟨.agg [.one, .one], false, false, .dat (.agg [.int .i64 fa, .int .i64 fb])⟩, ⟨.one, false, false, .dat (.int .i64 fd)⟩]) := (ix_raw0 ls fa fb fd).trans (cong2 (cond_cases (fun h0 => (by (try rw [h0]) <;> rfl)) (fun h0 => (by (try rw [h0]) <;> rfl))) rfl)
theorem ix_ok : FunOk Try.prog 38 (FunT.run S_ix) := by
  refine fun_ok (E := envOf tab ([(39, C_ix1)]) [] [(2, L_ix)] []) (fz := true) (fn := Try.f38) (envOf_ok progOk (.cons cix1_ok (.nil _))) (by kernel_rfl) (by kernel_rfl) (loops_one (by kernel_rfl) (ix_loopOk _ rfl)) ?_
  intro args σ r h
  unfold S_ix at h
  split at h
  · exact (ix_case0 _ _ _ _).trans h
  · simp [T.run_fail] at h

def C_ix : FunT := fun args σ => match args, σ with
  | [.dat (.slc (.agg [.one, .agg [.one, .one], .agg [.one, .one], .one]) ls), (.fn (.func 39) [] [.ptr (.agg [.one, .one]) 0 0 [], .ptr .one 1 0 []])], ([⟨.agg [.one, .one], false, false, .dat (.agg [.int .i64 fa, .int .i64 fb])⟩, ⟨.one, false, false, .dat (.int .i64 fd)⟩]) => .chk (ix_okL fa fb fd ls) (.leaf ([.dat (.int .i64 (ix_idx fa fb fd ls))], ([⟨.agg [.one, .one], false, false, .dat (.agg [.int .i64 fa, .int .i64 fb])⟩, ⟨.one, false, false, .dat (.int .i64 fd)⟩])))
  | _, _ => .fail
theorem cix_ok : FunOk Try.prog 38 (FunT.run C_ix) := ix_ok.of (by
  intro args σ r h
  unfold C_ix at h
  split at h
  · rename_i ls fa fb fd
    obtain ⟨hc, h'⟩ := T.chk_some h
    rw [← T.leaf_some h']
    unfold S_ix ix_idx
    simp only [hc, decide_true, Bool.and_true, T.run_chk, T.run_leaf, cond_true]
    all_goals (cases ls.any ((fun d => ix1_v0 (usedD d) (pR2 d 1 0) (pR2 d 1 1) (pI d 3) fa fb fd)) <;> rfl)
  · simp [T.run_fail] at h)
def C_index : FunT := fun args σ => match args, σ with
  | [AV.dat (D.slc (Sh.agg [Sh.one, Sh.agg [Sh.one, Sh.one], Sh.agg [Sh.one, Sh.one], Sh.one]) ls), AV.dat (D.agg [D.int IntKind.i64 fa, D.int IntKind.i64 fb]), AV.dat (D.int IntKind.i64 fd)], [] => .chk (ix_okL fa fb fd ls) (.leaf ([AV.dat (D.int IntKind.i64 (ix_idx fa fb fd ls))], []))
  | _, _ => .fail
theorem index_raw0 (ls : List D) (fa fb fd : Int) : runF (envOf tab [(38, C_ix)] [] [] []) true Try.f22 [.dat (.slc (.agg [.one, .agg [.one, .one], .agg [.one, .one], .one]) ls), .dat (.agg [.int .i64 fa, .int .i64 fb]), .dat (.int .i64 fd)] [] =
  (bif ix_okL fa fb fd ls then some ([AV.dat (D.int IntKind.i64 (ix_idx fa fb fd ls))], []) else none) := by kernel_rfl
theorem index_case0 (ls : List D) (fa fb fd : Int) : runF (envOf tab [(38, C_ix)] [] [] []) true Try.f22 [.dat (.slc (.agg [.one, .agg [.one, .one], .agg [.one, .one], .one]) ls), .dat (.agg [.int .i64 fa, .int .i64 fb]), .dat (.int .i64 fd)] [] = FunT.run C_index [.dat (.slc (.agg [.one, .agg [.one, .one], .agg [.one, .one], .one]) ls), .dat (.agg [.int .i64 fa, .int .i64 fb]), .dat (.int .i64 fd)] [] := (index_raw0 ls fa fb fd).trans (by
  show _ = (cond (ix_okL fa fb fd ls) (some (([AV.dat (D.int IntKind.i64 (ix_idx fa fb fd ls))], []) : Res)) none)
  generalize (ix_okL fa fb fd ls) = z0
  cases z0 with
  | true =>
   rfl
  | false =>
   rfl
  )
theorem cindex_ok : FunOk Try.prog 22 (FunT.run C_index) := by
  refine fun_ok (E := envOf tab [(38, C_ix)] [] [] []) (fz := true) (fn := Try.f22) (envOf_ok progOk (.cons cix_ok (.nil _))) (by kernel_rfl) (by kernel_rfl) (loops_none (by kernel_rfl)) ?_
  intro args σ r h
  unfold C_index at h
  split at h
  · exact (index_case0 _ _ _ _).trans h
  · simp [T.run_fail] at h

abbrev SpX1 : Specs := [(43, C_mdx), (38, C_jx)]
theorem SpX1_ok : SpecsOk Try.prog SpX1 := .cons cmdx_ok (.cons cjx_ok (.nil _))
def fsx_v0 (ds : List D) : Int := bif decide (jx_idx ds ds < (0 : Int)) then (0 : Int) else jx_idx ds ds
def fsx_v1 (ds : List D) : Int := bif decide (jx_idx ds ds < (0 : Int)) then (8 : Int) else (0 : Int)
def C_fsx : FunT := fun args σ => match args, σ with
  | [AV.ptr (Sh.agg [Sh.one, Sh.one]) 0 0 []], [{ sh := Sh.agg [Sh.one, Sh.one], dyn := false, frz := false, v := AV.dat (D.agg [D.slc (Sh.agg [Sh.one, Sh.agg [Sh.one, Sh.one], Sh.agg [Sh.one, Sh.one], Sh.one]) ds, D.fn (Fn.func 41) [] []]) }] => .chk (jx_okL ds ds) (.leaf ([AV.dat (D.int IntKind.i64 (fsx_v0 ds)), AV.dat (D.int IntKind.i64 (fsx_v1 ds))], [{ sh := Sh.agg [Sh.one, Sh.one], dyn := false, frz := false, v := AV.dat (D.agg [D.slc (Sh.agg [Sh.one, Sh.agg [Sh.one, Sh.one], Sh.agg [Sh.one, Sh.one], Sh.one]) ds, D.fn (Fn.func (41 : Nat)) [] []]) }]))
  | _, _ => .fail
theorem fsx_raw0 (ds : List D) : runF (envOf tab SpX1 [] [] []) true Try.f42 [pR 0] [xrow ds] =
  (bif jx_okL ds ds then 
   (bif decide (jx_idx ds ds < (0 : Int)) then some ([AV.dat (D.int IntKind.i64 (0 : Int)), AV.dat (D.int IntKind.i64 (8 : Int))], [{ sh := Sh.agg [Sh.one, Sh.one], dyn := false, frz := false, v := AV.dat (D.agg [D.slc (Sh.agg [Sh.one, Sh.agg [Sh.one, Sh.one], Sh.agg [Sh.one, Sh.one], Sh.one]) ds, D.fn (Fn.func (41 : Nat)) [] []]) }]) else some ([AV.dat (D.int IntKind.i64 (jx_idx ds ds)), AV.dat (D.int IntKind.i64 (0 : Int))], [{ sh := Sh.agg [Sh.one, Sh.one], dyn := false, frz := false, v := AV.dat (D.agg [D.slc (Sh.agg [Sh.one, Sh.agg [Sh.one, Sh.one], Sh.agg [Sh.one, Sh.one], Sh.one]) ds, D.fn (Fn.func (41 : Nat)) [] []]) }])) else none) := by kernel_rfl
theorem fsx_case0 (ds : List D) : runF (envOf tab SpX1 [] [] []) true Try.f42 [pR 0] [xrow ds] = FunT.run C_fsx [pR 0] [xrow ds] := (fsx_raw0 ds).trans (by
  show _ = (cond (jx_okL ds ds) (some (([AV.dat (D.int IntKind.i64 (bif decide (jx_idx ds ds < (0 : Int)) then (0 : Int) else jx_idx ds ds)), AV.dat (D.int IntKind.i64 (bif decide (jx_idx ds ds < (0 : Int)) then (8 : Int) else (0 : Int)))], [{ sh := Sh.agg [Sh.one, Sh.one], dyn := false, frz := false, v := AV.dat (D.agg [D.slc (Sh.agg [Sh.one, Sh.agg [Sh.one, Sh.one], Sh.agg [Sh.one, Sh.one], Sh.one]) ds, D.fn (Fn.func (41 : Nat)) [] []]) }]) : Res)) none)
  generalize (jx_okL ds ds) = z0
  cases z0 with
  | true =>
   generalize (decide (jx_idx ds ds < (0 : Int))) = z1
   cases z1 with
   | true =>
    rfl
   | false =>
    rfl
  | false =>
   rfl
  )
theorem cfsx_ok : FunOk Try.prog 42 (FunT.run C_fsx) := by
  refine fun_ok (E := envOf tab SpX1 [] [] []) (fz := true) (fn := Try.f42) (envOf_ok progOk SpX1_ok) (by kernel_rfl) (by kernel_rfl) (loops_none (by kernel_rfl)) ?_
  intro args σ r h
  unfold C_fsx at h
  split at h
  · exact (fsx_case0 _).trans h
  · simp [T.run_fail] at h

abbrev SpX2 : Specs := [(43, C_mdx), (44, S_cxO)]
theorem SpX2_ok : SpecsOk Try.prog SpX2 := .cons cmdx_ok (.cons cxO_ok (.nil _))
def ptx_v0 (ds : List D) (i : Int) (u : Bool) (a : Int) (b : Int) (x : Int) (y : Int) (d : Int) : List D := bif decide (i < (0 : Int)) then [] else bif decide (i ≥ (↑(List.length ds) : Int)) then [] else seg (List.set ds ((0 : Nat) + Int.toNat i) (D.agg [D.bool u, D.agg [D.int IntKind.i64 a, D.int IntKind.i64 b], D.agg [D.int IntKind.i64 x, D.int IntKind.i64 y], D.int IntKind.i64 d])) (0 : Nat) (List.length ds)
def ptx_v1 (ds : List D) (i : Int) : Int := bif decide (i < (0 : Int)) then (1 : Int) else bif decide (i ≥ (↑(List.length ds) : Int)) then (1 : Int) else (0 : Int)
def ptx_pre (ds : List D) (i : Int) (u : Bool) (a : Int) (b : Int) (x : Int) (y : Int) (d : Int) : Bool := decide (i < (0 : Int)) || (decide (i ≥ (↑(List.length ds) : Int)) || !List.isEmpty ds && fits (Sh.agg [Sh.one, Sh.agg [Sh.one, Sh.one], Sh.agg [Sh.one, Sh.one], Sh.one]) ds && decide (List.length ds * (48 : Nat) ≤ (35184372088832 : Nat)) && (decide ((0 : Int) ≤ i) && (decide (i < (↑(List.length ds) : Int)) && (Nat.beq (List.length ds) (List.length ds) && (decide ((0 : Nat) + Int.toNat i < List.length ds) && (okS (Sh.agg [Sh.one, Sh.agg [Sh.one, Sh.one], Sh.agg [Sh.one, Sh.one], Sh.one]) (nthD ds ((0 : Nat) + Int.toNat i)) && (Sh.eqb (Sh.agg [D.shape (nthD (D.getL (nthD ds ((0 : Nat) + Int.toNat i))) (0 : Nat)), Sh.agg [D.shape (nthD (D.getL (nthD (D.getL (nthD ds ((0 : Nat) + Int.toNat i))) (1 : Nat))) (0 : Nat)), D.shape (nthD (D.getL (nthD (D.getL (nthD ds ((0 : Nat) + Int.toNat i))) (1 : Nat))) (1 : Nat))], Sh.agg [D.shape (nthD (D.getL (nthD (D.getL (nthD ds ((0 : Nat) + Int.toNat i))) (2 : Nat))) (0 : Nat)), D.shape (nthD (D.getL (nthD (D.getL (nthD ds ((0 : Nat) + Int.toNat i))) (2 : Nat))) (1 : Nat))], D.shape (nthD (D.getL (nthD ds ((0 : Nat) + Int.toNat i))) (3 : Nat))]) (Sh.agg [Sh.one, Sh.agg [Sh.one, Sh.one], Sh.agg [Sh.one, Sh.one], Sh.one]) && Nat.beq (List.length (List.set ds ((0 : Nat) + Int.toNat i) (D.agg [D.bool u, D.agg [D.int IntKind.i64 a, D.int IntKind.i64 b], D.agg [D.int IntKind.i64 x, D.int IntKind.i64 y], D.int IntKind.i64 d]))) (List.length ds))))))))
def C_ptx : FunT := fun args σ => match args, σ with
  | [AV.ptr (Sh.agg [Sh.one, Sh.one]) 0 0 [], AV.dat (D.int IntKind.i64 i), AV.dat (D.agg [D.bool u, D.agg [D.int IntKind.i64 a, D.int IntKind.i64 b], D.agg [D.int IntKind.i64 x, D.int IntKind.i64 y], D.int IntKind.i64 d])], [{ sh := Sh.agg [Sh.one, Sh.one], dyn := false, frz := false, v := AV.dat (D.agg [D.slc (Sh.agg [Sh.one, Sh.agg [Sh.one, Sh.one], Sh.agg [Sh.one, Sh.one], Sh.one]) ds, D.fn (Fn.func 41) [] []]) }] => .chk ((ptx_pre ds i u a b x y d)) (.leaf ([AV.dat (D.slc (Sh.agg [Sh.one, Sh.agg [Sh.one, Sh.one], Sh.agg [Sh.one, Sh.one], Sh.one]) (ptx_v0 ds i u a b x y d)), AV.dat (D.int IntKind.i64 (ptx_v1 ds i))], [{ sh := Sh.agg [Sh.one, Sh.one], dyn := false, frz := false, v := AV.dat (D.agg [D.slc (Sh.agg [Sh.one, Sh.agg [Sh.one, Sh.one], Sh.agg [Sh.one, Sh.one], Sh.one]) ds, D.fn (Fn.func (41 : Nat)) [] []]) }]))
  | _, _ => .fail
theorem ptx_raw0 (ds : List D) (i : Int) (u : Bool) (a b x y d : Int) : runF (envOf tab SpX2 [] [] []) true Try.f27 [pR 0, .dat (.int .i64 i), .dat (.agg [.bool u, .agg [.int .i64 a, .int .i64 b], .agg [.int .i64 x, .int .i64 y], .int .i64 d])] [xrow ds] =
  (bif decide (i < (0 : Int)) == false then 
   (bif decide (i < (0 : Int)) then some ([AV.dat (D.slc (Sh.agg [Sh.one, Sh.agg [Sh.one, Sh.one], Sh.agg [Sh.one, Sh.one], Sh.one]) []), AV.dat (D.int IntKind.i64 (1 : Int))], [{ sh := Sh.agg [Sh.one, Sh.one], dyn := false, frz := false, v := AV.dat (D.agg [D.slc (Sh.agg [Sh.one, Sh.agg [Sh.one, Sh.one], Sh.agg [Sh.one, Sh.one], Sh.one]) ds, D.fn (Fn.func (41 : Nat)) [] []]) }]) else 
    (bif decide (i ≥ (↑(List.length ds) : Int)) then some ([AV.dat (D.slc (Sh.agg [Sh.one, Sh.agg [Sh.one, Sh.one], Sh.agg [Sh.one, Sh.one], Sh.one]) []), AV.dat (D.int IntKind.i64 (1 : Int))], [{ sh := Sh.agg [Sh.one, Sh.one], dyn := false, frz := false, v := AV.dat (D.agg [D.slc (Sh.agg [Sh.one, Sh.agg [Sh.one, Sh.one], Sh.agg [Sh.one, Sh.one], Sh.one]) ds, D.fn (Fn.func (41 : Nat)) [] []]) }]) else 
     (bif !List.isEmpty ds && fits (Sh.agg [Sh.one, Sh.agg [Sh.one, Sh.one], Sh.agg [Sh.one, Sh.one], Sh.one]) ds && decide (List.length ds * (48 : Nat) ≤ (35184372088832 : Nat)) then 
      (bif decide ((0 : Int) ≤ i) then 
       (bif decide (i < (↑(List.length ds) : Int)) then 
        (bif Nat.beq (List.length ds) (List.length ds) && true && true then 
         (bif decide ((0 : Nat) + Int.toNat i < List.length ds) then 
          (bif okS (Sh.agg [Sh.one, Sh.agg [Sh.one, Sh.one], Sh.agg [Sh.one, Sh.one], Sh.one]) (nthD ds ((0 : Nat) + Int.toNat i)) then 
           (bif Sh.eqb (Sh.agg [D.shape (nthD (D.getL (nthD ds ((0 : Nat) + Int.toNat i))) (0 : Nat)), Sh.agg [D.shape (nthD (D.getL (nthD (D.getL (nthD ds ((0 : Nat) + Int.toNat i))) (1 : Nat))) (0 : Nat)), D.shape (nthD (D.getL (nthD (D.getL (nthD ds ((0 : Nat) + Int.toNat i))) (1 : Nat))) (1 : Nat))], Sh.agg [D.shape (nthD (D.getL (nthD (D.getL (nthD ds ((0 : Nat) + Int.toNat i))) (2 : Nat))) (0 : Nat)), D.shape (nthD (D.getL (nthD (D.getL (nthD ds ((0 : Nat) + Int.toNat i))) (2 : Nat))) (1 : Nat))], D.shape (nthD (D.getL (nthD ds ((0 : Nat) + Int.toNat i))) (3 : Nat))]) (Sh.agg [Sh.one, Sh.agg [Sh.one, Sh.one], Sh.agg [Sh.one, Sh.one], Sh.one]) then 
            (bif Nat.beq (List.length (List.set ds ((0 : Nat) + Int.toNat i) (D.agg [D.bool u, D.agg [D.int IntKind.i64 a, D.int IntKind.i64 b], D.agg [D.int IntKind.i64 x, D.int IntKind.i64 y], D.int IntKind.i64 d]))) (List.length ds) then some ([AV.dat (D.slc (Sh.agg [Sh.one, Sh.agg [Sh.one, Sh.one], Sh.agg [Sh.one, Sh.one], Sh.one]) (seg (List.set ds ((0 : Nat) + Int.toNat i) (D.agg [D.bool u, D.agg [D.int IntKind.i64 a, D.int IntKind.i64 b], D.agg [D.int IntKind.i64 x, D.int IntKind.i64 y], D.int IntKind.i64 d])) (0 : Nat) (List.length ds))), AV.dat (D.int IntKind.i64 (0 : Int))], [{ sh := Sh.agg [Sh.one, Sh.one], dyn := false, frz := false, v := AV.dat (D.agg [D.slc (Sh.agg [Sh.one, Sh.agg [Sh.one, Sh.one], Sh.agg [Sh.one, Sh.one], Sh.one]) ds, D.fn (Fn.func (41 : Nat)) [] []]) }]) else none) else none) else none) else none) else none) else none) else none) else none))) else 
   (bif decide (i < (0 : Int)) then some ([AV.dat (D.slc (Sh.agg [Sh.one, Sh.agg [Sh.one, Sh.one], Sh.agg [Sh.one, Sh.one], Sh.one]) []), AV.dat (D.int IntKind.i64 (1 : Int))], [{ sh := Sh.agg [Sh.one, Sh.one], dyn := false, frz := false, v := AV.dat (D.agg [D.slc (Sh.agg [Sh.one, Sh.agg [Sh.one, Sh.one], Sh.agg [Sh.one, Sh.one], Sh.one]) ds, D.fn (Fn.func (41 : Nat)) [] []]) }]) else none)) := by kernel_rfl
theorem ptx_case0 (ds : List D) (i : Int) (u : Bool) (a b x y d : Int) : runF (envOf tab SpX2 [] [] []) true Try.f27 [pR 0, .dat (.int .i64 i), .dat (.agg [.bool u, .agg [.int .i64 a, .int .i64 b], .agg [.int .i64 x, .int .i64 y], .int .i64 d])] [xrow ds] = FunT.run C_ptx [pR 0, .dat (.int .i64 i), .dat (.agg [.bool u, .agg [.int .i64 a, .int .i64 b], .agg [.int .i64 x, .int .i64 y], .int .i64 d])] [xrow ds] := (ptx_raw0 ds i u a b x y d).trans (by
  show _ = (cond (decide (i < (0 : Int)) || (decide (i ≥ (↑(List.length ds) : Int)) || !List.isEmpty ds && fits (Sh.agg [Sh.one, Sh.agg [Sh.one, Sh.one], Sh.agg [Sh.one, Sh.one], Sh.one]) ds && decide (List.length ds * (48 : Nat) ≤ (35184372088832 : Nat)) && (decide ((0 : Int) ≤ i) && (decide (i < (↑(List.length ds) : Int)) && (Nat.beq (List.length ds) (List.length ds) && (decide ((0 : Nat) + Int.toNat i < List.length ds) && (okS (Sh.agg [Sh.one, Sh.agg [Sh.one, Sh.one], Sh.agg [Sh.one, Sh.one], Sh.one]) (nthD ds ((0 : Nat) + Int.toNat i)) && (Sh.eqb (Sh.agg [D.shape (nthD (D.getL (nthD ds ((0 : Nat) + Int.toNat i))) (0 : Nat)), Sh.agg [D.shape (nthD (D.getL (nthD (D.getL (nthD ds ((0 : Nat) + Int.toNat i))) (1 : Nat))) (0 : Nat)), D.shape (nthD (D.getL (nthD (D.getL (nthD ds ((0 : Nat) + Int.toNat i))) (1 : Nat))) (1 : Nat))], Sh.agg [D.shape (nthD (D.getL (nthD (D.getL (nthD ds ((0 : Nat) + Int.toNat i))) (2 : Nat))) (0 : Nat)), D.shape (nthD (D.getL (nthD (D.getL (nthD ds ((0 : Nat) + Int.toNat i))) (2 : Nat))) (1 : Nat))], D.shape (nthD (D.getL (nthD ds ((0 : Nat) + Int.toNat i))) (3 : Nat))]) (Sh.agg [Sh.one, Sh.agg [Sh.one, Sh.one], Sh.agg [Sh.one, Sh.one], Sh.one]) && Nat.beq (List.length (List.set ds ((0 : Nat) + Int.toNat i) (D.agg [D.bool u, D.agg [D.int IntKind.i64 a, D.int IntKind.i64 b], D.agg [D.int IntKind.i64 x, D.int IntKind.i64 y], D.int IntKind.i64 d]))) (List.length ds))))))))) (some (([AV.dat (D.slc (Sh.agg [Sh.one, Sh.agg [Sh.one, Sh.one], Sh.agg [Sh.one, Sh.one], Sh.one]) (bif decide (i < (0 : Int)) then [] else bif decide (i ≥ (↑(List.length ds) : Int)) then [] else seg (List.set ds ((0 : Nat) + Int.toNat i) (D.agg [D.bool u, D.agg [D.int IntKind.i64 a, D.int IntKind.i64 b], D.agg [D.int IntKind.i64 x, D.int IntKind.i64 y], D.int IntKind.i64 d])) (0 : Nat) (List.length ds))), AV.dat (D.int IntKind.i64 (bif decide (i < (0 : Int)) then (1 : Int) else bif decide (i ≥ (↑(List.length ds) : Int)) then (1 : Int) else (0 : Int)))], [{ sh := Sh.agg [Sh.one, Sh.one], dyn := false, frz := false, v := AV.dat (D.agg [D.slc (Sh.agg [Sh.one, Sh.agg [Sh.one, Sh.one], Sh.agg [Sh.one, Sh.one], Sh.one]) ds, D.fn (Fn.func (41 : Nat)) [] []]) }]) : Res)) none)
  generalize (decide (i < (0 : Int))) = z0
  cases z0 with
  | true =>
   rfl
  | false =>
   generalize (decide (i ≥ (↑(List.length ds) : Int))) = z1
   cases z1 with
   | true =>
    rfl
   | false =>
    generalize (!List.isEmpty ds && fits (Sh.agg [Sh.one, Sh.agg [Sh.one, Sh.one], Sh.agg [Sh.one, Sh.one], Sh.one]) ds && decide (List.length ds * (48 : Nat) ≤ (35184372088832 : Nat))) = z2
    cases z2 with
    | true =>
     generalize (decide ((0 : Int) ≤ i)) = z3
     cases z3 with
     | true =>
      generalize (decide (i < (↑(List.length ds) : Int))) = z4
      cases z4 with
      | true =>
       generalize (Nat.beq (List.length ds) (List.length ds)) = z5
       cases z5 with
       | true =>
        generalize (decide ((0 : Nat) + Int.toNat i < List.length ds)) = z6
        cases z6 with
        | true =>
         generalize (okS (Sh.agg [Sh.one, Sh.agg [Sh.one, Sh.one], Sh.agg [Sh.one, Sh.one], Sh.one]) (nthD ds ((0 : Nat) + Int.toNat i))) = z7
         cases z7 with
         | true =>
          generalize (Sh.eqb (Sh.agg [D.shape (nthD (D.getL (nthD ds ((0 : Nat) + Int.toNat i))) (0 : Nat)), Sh.agg [D.shape (nthD (D.getL (nthD (D.getL (nthD ds ((0 : Nat) + Int.toNat i))) (1 : Nat))) (0 : Nat)), D.shape (nthD (D.getL (nthD (D.getL (nthD ds ((0 : Nat) + Int.toNat i))) (1 : Nat))) (1 : Nat))], Sh.agg [D.shape (nthD (D.getL (nthD (D.getL (nthD ds ((0 : Nat) + Int.toNat i))) (2 : Nat))) (0 : Nat)), D.shape (nthD (D.getL (nthD (D.getL (nthD ds ((0 : Nat) + Int.toNat i))) (2 : Nat))) (1 : Nat))], D.shape (nthD (D.getL (nthD ds ((0 : Nat) + Int.toNat i))) (3 : Nat))]) (Sh.agg [Sh.one, Sh.agg [Sh.one, Sh.one], Sh.agg [Sh.one, Sh.one], Sh.one])) = z8
          cases z8 with
          | true =>
           generalize (Nat.beq (List.length (List.set ds ((0 : Nat) + Int.toNat i) (D.agg [D.bool u, D.agg [D.int IntKind.i64 a, D.int IntKind.i64 b], D.agg [D.int IntKind.i64 x, D.int IntKind.i64 y], D.int IntKind.i64 d]))) (List.length ds)) = z9
           cases z9 with
           | true =>
            rfl
           | false =>
            rfl
          | false =>
           rfl
         | false =>
          rfl
        | false =>
         rfl
       | false =>
        rfl
      | false =>
       rfl
     | false =>
      rfl
    | false =>
     rfl
  )
theorem cptx_ok : FunOk Try.prog 27 (FunT.run C_ptx) := by
  refine fun_ok (E := envOf tab SpX2 [] [] []) (fz := true) (fn := Try.f27) (envOf_ok progOk SpX2_ok) (by kernel_rfl) (by kernel_rfl) (loops_none (by kernel_rfl)) ?_
  intro args σ r h
  unfold C_ptx at h
  split at h
  · exact (ptx_case0 _ _ _ _ _ _ _ _).trans h
  · simp [T.run_fail] at h

abbrev SpX3 : Specs := [(42, C_fsx), (27, C_ptx)]
theorem SpX3_ok : SpecsOk Try.prog SpX3 := .cons cfsx_ok (.cons cptx_ok (.nil _))
def adx_v0 (ds : List D) (u : Bool) (a : Int) (b : Int) (x : Int) (y : Int) (d : Int) : List D := bif fsx_v1 ds != (0 : Int) then [] else ptx_v0 ds (fsx_v0 ds) u a b x y d
def adx_v1 (ds : List D) : Int := bif fsx_v1 ds != (0 : Int) then (0 : Int) else fsx_v0 ds
def adx_v2 (ds : List D) : Int := bif fsx_v1 ds != (0 : Int) then fsx_v1 ds else ptx_v1 ds (fsx_v0 ds)
def adx_pre (ds : List D) (u : Bool) (a : Int) (b : Int) (x : Int) (y : Int) (d : Int) : Bool := jx_okL ds ds && (fsx_v1 ds != (0 : Int) || ptx_pre ds (fsx_v0 ds) u a b x y d)
def C_adx : FunT := fun args σ => match args, σ with
  | [AV.ptr (Sh.agg [Sh.one, Sh.one]) 0 0 [], AV.dat (D.agg [D.bool u, D.agg [D.int IntKind.i64 a, D.int IntKind.i64 b], D.agg [D.int IntKind.i64 x, D.int IntKind.i64 y], D.int IntKind.i64 d])], [{ sh := Sh.agg [Sh.one, Sh.one], dyn := false, frz := false, v := AV.dat (D.agg [D.slc (Sh.agg [Sh.one, Sh.agg [Sh.one, Sh.one], Sh.agg [Sh.one, Sh.one], Sh.one]) ds, D.fn (Fn.func 41) [] []]) }] => .chk ((adx_pre ds u a b x y d)) (.leaf ([AV.dat (D.slc (Sh.agg [Sh.one, Sh.agg [Sh.one, Sh.one], Sh.agg [Sh.one, Sh.one], Sh.one]) (adx_v0 ds u a b x y d)), AV.dat (D.int IntKind.i64 (adx_v1 ds)), AV.dat (D.int IntKind.i64 (adx_v2 ds))], [{ sh := Sh.agg [Sh.one, Sh.one], dyn := false, frz := false, v := AV.dat (D.agg [D.slc (Sh.agg [Sh.one, Sh.agg [Sh.one, Sh.one], Sh.agg [Sh.one, Sh.one], Sh.one]) ds, D.fn (Fn.func (41 : Nat)) [] []]) }]))
  | _, _ => .fail
theorem adx_raw0 (ds : List D) (u : Bool) (a b x y d : Int) : runF (envOf tab SpX3 [] [] []) true Try.f26 [pR 0, .dat (.agg [.bool u, .agg [.int .i64 a, .int .i64 b], .agg [.int .i64 x, .int .i64 y], .int .i64 d])] [xrow ds] =
  (bif jx_okL ds ds then 
   (bif fsx_v1 ds != (0 : Int) then some ([AV.dat (D.slc (Sh.agg [Sh.one, Sh.agg [Sh.one, Sh.one], Sh.agg [Sh.one, Sh.one], Sh.one]) []), AV.dat (D.int IntKind.i64 (0 : Int)), AV.dat (D.int IntKind.i64 (fsx_v1 ds))], [{ sh := Sh.agg [Sh.one, Sh.one], dyn := false, frz := false, v := AV.dat (D.agg [D.slc (Sh.agg [Sh.one, Sh.agg [Sh.one, Sh.one], Sh.agg [Sh.one, Sh.one], Sh.one]) ds, D.fn (Fn.func (41 : Nat)) [] []]) }]) else 
    (bif ptx_pre ds (fsx_v0 ds) u a b x y d then some ([AV.dat (D.slc (Sh.agg [Sh.one, Sh.agg [Sh.one, Sh.one], Sh.agg [Sh.one, Sh.one], Sh.one]) (ptx_v0 ds (fsx_v0 ds) u a b x y d)), AV.dat (D.int IntKind.i64 (fsx_v0 ds)), AV.dat (D.int IntKind.i64 (ptx_v1 ds (fsx_v0 ds)))], [{ sh := Sh.agg [Sh.one, Sh.one], dyn := false, frz := false, v := AV.dat (D.agg [D.slc (Sh.agg [Sh.one, Sh.agg [Sh.one, Sh.one], Sh.agg [Sh.one, Sh.one], Sh.one]) ds, D.fn (Fn.func (41 : Nat)) [] []]) }]) else none)) else none) := by kernel_rfl
theorem adx_case0 (ds : List D) (u : Bool) (a b x y d : Int) : runF (envOf tab SpX3 [] [] []) true Try.f26 [pR 0, .dat (.agg [.bool u, .agg [.int .i64 a, .int .i64 b], .agg [.int .i64 x, .int .i64 y], .int .i64 d])] [xrow ds] = FunT.run C_adx [pR 0, .dat (.agg [.bool u, .agg [.int .i64 a, .int .i64 b], .agg [.int .i64 x, .int .i64 y], .int .i64 d])] [xrow ds] := (adx_raw0 ds u a b x y d).trans (by
  show _ = (cond (jx_okL ds ds && (fsx_v1 ds != (0 : Int) || ptx_pre ds (fsx_v0 ds) u a b x y d)) (some (([AV.dat (D.slc (Sh.agg [Sh.one, Sh.agg [Sh.one, Sh.one], Sh.agg [Sh.one, Sh.one], Sh.one]) (bif fsx_v1 ds != (0 : Int) then [] else ptx_v0 ds (fsx_v0 ds) u a b x y d)), AV.dat (D.int IntKind.i64 (bif fsx_v1 ds != (0 : Int) then (0 : Int) else fsx_v0 ds)), AV.dat (D.int IntKind.i64 (bif fsx_v1 ds != (0 : Int) then fsx_v1 ds else ptx_v1 ds (fsx_v0 ds)))], [{ sh := Sh.agg [Sh.one, Sh.one], dyn := false, frz := false, v := AV.dat (D.agg [D.slc (Sh.agg [Sh.one, Sh.agg [Sh.one, Sh.one], Sh.agg [Sh.one, Sh.one], Sh.one]) ds, D.fn (Fn.func (41 : Nat)) [] []]) }]) : Res)) none)
  generalize (jx_okL ds ds) = z0
  cases z0 with
  | true =>
   generalize (fsx_v1 ds != (0 : Int)) = z1
   cases z1 with
   | true =>
    rfl
   | false =>
    generalize (ptx_pre ds (fsx_v0 ds) u a b x y d) = z2
    cases z2 with
    | true =>
     rfl
    | false =>
     rfl
  | false =>
   rfl
  )
theorem cadx_ok : FunOk Try.prog 26 (FunT.run C_adx) := by
  refine fun_ok (E := envOf tab SpX3 [] [] []) (fz := true) (fn := Try.f26) (envOf_ok progOk SpX3_ok) (by kernel_rfl) (by kernel_rfl) (loops_none (by kernel_rfl)) ?_
  intro args σ r h
  unfold C_adx at h
  split at h
  · exact (adx_case0 _ _ _ _ _ _ _).trans h
  · simp [T.run_fail] at h



end Go.Proofs.Ytiegehdiffemlaa
