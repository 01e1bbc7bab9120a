/- Seat 06: rows of numbers, the small functions. -/
import Derived.Test.YtdgphkifajcejaaTab
import Derived.Test.YtdgphkifajcejaaAx28
namespace Go.Proofs.Ytdgphkifajcejaa
open Go.AX
set_option maxRecDepth 100000

def S_there : FunT := fun args σ => match args, σ with
  | [AV.dat (D.int IntKind.i64 x)], [] => .leaf ([AV.dat (D.bool (x != (0 : Int)))], [])
  | _, _ => .fail
theorem there_case0 (x : Int) : runF (envOf tab [] [] [] []) true Try.f7 [.dat (.int .i64 x)] [] = FunT.run S_there [.dat (.int .i64 x)] [] := by kernel_rfl
theorem there_ok : FunOk Try.prog 7 (FunT.run S_there) := by
  refine fun_ok (E := envOf tab [] [] [] []) (fz := true) (fn := Try.f7) (envOf_ok progOk (.nil _)) (by kernel_rfl) (by kernel_rfl) (loops_none (by kernel_rfl)) ?_
  intro args σ r h
  unfold S_there at h
  split at h
  · exact (there_case0 _).trans h
  · simp [T.run_fail] at h


theorem clone0  : runF (envOf tab [] [] [] []) true Try.f24 [.dat (.slc .one [])] [] =some ([AV.dat (D.slc Sh.one [])], []) := by kernel_rfl
theorem clone1 (d : D) (ds : List D) : runF (envOf tab [] [] [] []) true Try.f24 [.dat (.slc .one (d :: ds))] [] =
  (bif fits Sh.one (d :: ds) then 
   (bif decide (((0 : Nat) + List.length (d :: ds)) * (8 : Nat) ≤ (35184372088832 : Nat)) then 
    (bif Nat.beq (List.length (d :: ds)) ((0 : Nat) + List.length (d :: ds)) then some ([AV.dat (D.slc Sh.one (seg (d :: ds) (0 : Nat) ((0 : Nat) + List.length (d :: ds))))], []) else none) else none) else none) := by kernel_rfl
theorem cloneO1 (d : D) (ds : List D) : runF (envOf tab [] [] [] []) false Try.f24 [.dat (.slc .one (d :: ds))] [] =
  (bif fits Sh.one (d :: ds) then 
   (bif decide (((0 : Nat) + List.length (d :: ds)) * (8 : Nat) ≤ (35184372088832 : Nat)) then some ([AV.sref Sh.one (0 : Nat) ((0 : Nat) + List.length (d :: ds)) [] (0 : Nat) ((0 : Nat) + List.length (d :: ds))], [{ sh := Sh.arr Sh.one (0 : Nat), dyn := true, frz := false, v := AV.dat (D.arr Sh.one (d :: ds)) }]) else none) else none) := by kernel_rfl
def S_clone : FunT := fun args σ => match args, σ with
  | [.dat (.slc .one ds)], [] => .chk (fits .one ds && decide (ds.length * 8 ≤ LIM)) (.leaf ([.dat (.slc .one ds)], []))
  | _, _ => .fail
theorem clone_ok : FunOk Try.prog 24 (FunT.run S_clone) := by
  refine fun_ok (E := envOf tab [] [] [] []) (fz := true) (fn := Try.f24) (envOf_ok progOk (.nil _)) (by kernel_rfl) (by kernel_rfl) (loops_none (by kernel_rfl)) ?_
  intro args σ r h
  unfold S_clone at h
  split at h
  · rename_i ds
    obtain ⟨hc, h'⟩ := T.chk_some h
    rw [← T.leaf_some h']
    simp only [Bool.and_eq_true, decide_eq_true_eq] at hc
    cases ds with
    | nil => exact clone0
    | cons d ds =>
      rw [clone1, hc.1, Nat.zero_add, decide_eq_true (show (d :: ds).length * 8 ≤ 35184372088832 from hc.2), beq_self, seg_full]; rfl
  · simp [T.run_fail] at h
def S_cloneO : FunT := fun args σ => match args, σ with
  | [.dat (.slc .one ds)], [] => .chk (!ds.isEmpty && fits .one ds && decide (ds.length * 8 ≤ LIM)) (.leaf ([.sref .one 0 ds.length [] 0 ds.length], [mkDyn .one ds]))
  | _, _ => .fail
theorem cloneO_ok : FunOk Try.prog 24 (FunT.run S_cloneO) := by
  refine fun_ok (E := envOf tab [] [] [] []) (fz := false) (fn := Try.f24) (envOf_ok progOk (.nil _)) (by kernel_rfl) (by kernel_rfl) (loops_none (by kernel_rfl)) ?_
  intro args σ r h
  unfold S_cloneO at h
  split at h
  · rename_i ds
    obtain ⟨hc, h'⟩ := T.chk_some h
    rw [← T.leaf_some h']
    simp only [Bool.and_eq_true, decide_eq_true_eq] at hc
    cases ds with
    | nil => simp at hc
    | cons d ds => rw [cloneO1, hc.1.2, Nat.zero_add, decide_eq_true (show (d :: ds).length * 8 ≤ 35184372088832 from hc.2)]; rfl
  · simp [T.run_fail] at h

def S_of : FunT := fun args σ => match args, σ with
  | [AV.dat (D.slc Sh.one ds), AV.dat (D.fn (Fn.func f) [] [])], [] => 
    .chk (fits Sh.one ds && decide (List.length ds * (8 : Nat) ≤ (35184372088832 : Nat))) (.leaf ([AV.ptr (Sh.agg [Sh.one, Sh.one]) (0 : Nat) (0 : Nat) []], [{ sh := Sh.agg [Sh.one, Sh.one], dyn := false, frz := false, v := AV.dat (D.agg [D.slc Sh.one ds, D.fn (Fn.func f) [] []]) }]))
  | [AV.dat (D.slc Sh.one _), AV.dat D.nilf], [] => .leaf ([AV.dat D.nilp], [])
  | _, _ => .fail
theorem of_case0 (ds : List D) (f : FuncId) : runF (envOf tab [(24, S_clone)] [] [] []) false Try.f6 [.dat (.slc .one ds), .dat (.fn (.func f) [] [])] [] = FunT.run S_of [.dat (.slc .one ds), .dat (.fn (.func f) [] [])] [] := by kernel_rfl
theorem of_case1 (ds : List D) : runF (envOf tab [(24, S_clone)] [] [] []) false Try.f6 [.dat (.slc .one ds), .dat .nilf] [] = FunT.run S_of [.dat (.slc .one ds), .dat .nilf] [] := by kernel_rfl
theorem of_ok : FunOk Try.prog 6 (FunT.run S_of) := by
  refine fun_ok (E := envOf tab [(24, S_clone)] [] [] []) (fz := false) (fn := Try.f6) (envOf_ok progOk (.cons clone_ok (.nil _))) (by kernel_rfl) (by kernel_rfl) (loops_none (by kernel_rfl)) ?_
  intro args σ r h
  unfold S_of at h
  split at h
  · exact (of_case0 _ _).trans h
  · exact (of_case1 _).trans h
  · simp [T.run_fail] at h


end Go.Proofs.Ytdgphkifajcejaa
