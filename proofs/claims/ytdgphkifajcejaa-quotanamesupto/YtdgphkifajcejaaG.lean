/- Seat 06: rows of things with a name. -/
import Derived.Test.YtdgphkifajcejaaE
namespace Go.Proofs.Ytdgphkifajcejaa
open Go.AX
set_option maxRecDepth 100000

def S_named : FunT := fun args σ => match args, σ with
  | [AV.dat (D.agg [D.str s, D.int IntKind.i64 _])], [] => .leaf ([AV.dat (D.bool !decide (Array.toList (ByteArray.data s) = []))], [])
  | _, _ => .fail
theorem named_case0 (s : ByteArray) (n : Int) : runF (envOf tab [] [] [] []) true Try.f20 [.dat (.agg [.str s, .int .i64 n])] [] = FunT.run S_named [.dat (.agg [.str s, .int .i64 n])] [] := by kernel_rfl
theorem named_ok : FunOk Try.prog 20 (FunT.run S_named) := by
  refine fun_ok (E := envOf tab [] [] [] []) (fz := true) (fn := Try.f20) (envOf_ok progOk (.nil _)) (by kernel_rfl) (by kernel_rfl) (loops_none (by kernel_rfl)) ?_
  intro args σ r h
  unfold S_named at h
  split at h
  · exact (named_case0 _ _).trans h
  · simp [T.run_fail] at h


theorem tclone0  : runF (envOf tab [] [] [] []) true Try.f28 [.dat (.slc (.agg [.one, .one]) [])] [] =some ([AV.dat (D.slc (Sh.agg [Sh.one, Sh.one]) [])], []) := by kernel_rfl
theorem tclone1 (d : D) (ds : List D) : runF (envOf tab [] [] [] []) true Try.f28 [.dat (.slc (.agg [.one, .one]) (d :: ds))] [] =
  (bif fits (Sh.agg [Sh.one, Sh.one]) (d :: ds) then 
   (bif decide (((0 : Nat) + List.length (d :: ds)) * (24 : Nat) ≤ (35184372088832 : Nat)) then 
    (bif Nat.beq (List.length (d :: ds)) ((0 : Nat) + List.length (d :: ds)) then some ([AV.dat (D.slc (Sh.agg [Sh.one, Sh.one]) (seg (d :: ds) (0 : Nat) ((0 : Nat) + List.length (d :: ds))))], []) else none) else none) else none) := by kernel_rfl
theorem tcloneO1 (d : D) (ds : List D) : runF (envOf tab [] [] [] []) false Try.f28 [.dat (.slc (.agg [.one, .one]) (d :: ds))] [] =
  (bif fits (Sh.agg [Sh.one, Sh.one]) (d :: ds) then 
   (bif decide (((0 : Nat) + List.length (d :: ds)) * (24 : Nat) ≤ (35184372088832 : Nat)) then some ([AV.sref (Sh.agg [Sh.one, Sh.one]) (0 : Nat) ((0 : Nat) + List.length (d :: ds)) [] (0 : Nat) ((0 : Nat) + List.length (d :: ds))], [{ sh := Sh.arr (Sh.agg [Sh.one, Sh.one]) (0 : Nat), dyn := true, frz := false, v := AV.dat (D.arr (Sh.agg [Sh.one, Sh.one]) (d :: ds)) }]) else none) else none) := by kernel_rfl
def S_tclone : FunT := fun args σ => match args, σ with
  | [.dat (.slc (.agg [.one, .one]) ds)], [] => .chk (fits (.agg [.one, .one]) ds && decide (ds.length * 24 ≤ LIM)) (.leaf ([.dat (.slc (.agg [.one, .one]) ds)], []))
  | _, _ => .fail
theorem tclone_ok : FunOk Try.prog 28 (FunT.run S_tclone) := by
  refine fun_ok (E := envOf tab [] [] [] []) (fz := true) (fn := Try.f28) (envOf_ok progOk (.nil _)) (by kernel_rfl) (by kernel_rfl) (loops_none (by kernel_rfl)) ?_
  intro args σ r h
  unfold S_tclone at h
  split at h
  · rename_i ds
    obtain ⟨hc, h'⟩ := T.chk_some h
    rw [← T.leaf_some h']
    simp only [Bool.and_eq_true, decide_eq_true_eq] at hc
    cases ds with
    | nil => exact tclone0
    | cons d ds =>
      rw [tclone1, hc.1, Nat.zero_add, decide_eq_true (show (d :: ds).length * 24 ≤ 35184372088832 from hc.2), beq_self, seg_full]; rfl
  · simp [T.run_fail] at h
def S_tcloneO : FunT := fun args σ => match args, σ with
  | [.dat (.slc (.agg [.one, .one]) ds)], [] => .chk (!ds.isEmpty && fits (.agg [.one, .one]) ds && decide (ds.length * 24 ≤ LIM)) (.leaf ([.sref (.agg [.one, .one]) 0 ds.length [] 0 ds.length], [mkDyn (.agg [.one, .one]) ds]))
  | _, _ => .fail
theorem tcloneO_ok : FunOk Try.prog 28 (FunT.run S_tcloneO) := by
  refine fun_ok (E := envOf tab [] [] [] []) (fz := false) (fn := Try.f28) (envOf_ok progOk (.nil _)) (by kernel_rfl) (by kernel_rfl) (loops_none (by kernel_rfl)) ?_
  intro args σ r h
  unfold S_tcloneO at h
  split at h
  · rename_i ds
    obtain ⟨hc, h'⟩ := T.chk_some h
    rw [← T.leaf_some h']
    simp only [Bool.and_eq_true, decide_eq_true_eq] at hc
    cases ds with
    | nil => simp at hc
    | cons d ds => rw [tcloneO1, hc.1.2, Nat.zero_add, decide_eq_true (show (d :: ds).length * 24 ≤ 35184372088832 from hc.2)]; rfl
  · simp [T.run_fail] at h

def S_tof : FunT := fun args σ => match args, σ with
  | [AV.dat (D.slc (Sh.agg [Sh.one, Sh.one]) ds), AV.dat (D.fn (Fn.func f) [] [])], [] => 
    .chk (fits (Sh.agg [Sh.one, Sh.one]) ds && decide (List.length ds * (24 : Nat) ≤ (35184372088832 : Nat))) (.leaf ([AV.ptr (Sh.agg [Sh.one, Sh.one]) (0 : Nat) (0 : Nat) []], [{ sh := Sh.agg [Sh.one, Sh.one], dyn := false, frz := false, v := AV.dat (D.agg [D.slc (Sh.agg [Sh.one, Sh.one]) ds, D.fn (Fn.func f) [] []]) }]))
  | _, _ => .fail
theorem tof_case0 (ds : List D) (f : FuncId) : runF (envOf tab [(28, S_tclone)] [] [] []) false Try.f19 [.dat (.slc (.agg [.one, .one]) ds), .dat (.fn (.func f) [] [])] [] = FunT.run S_tof [.dat (.slc (.agg [.one, .one]) ds), .dat (.fn (.func f) [] [])] [] := by kernel_rfl
theorem tof_ok : FunOk Try.prog 19 (FunT.run S_tof) := by
  refine fun_ok (E := envOf tab [(28, S_tclone)] [] [] []) (fz := false) (fn := Try.f19) (envOf_ok progOk (.cons tclone_ok (.nil _))) (by kernel_rfl) (by kernel_rfl) (loops_none (by kernel_rfl)) ?_
  intro args σ r h
  unfold S_tof at h
  split at h
  · exact (tof_case0 _ _).trans h
  · simp [T.run_fail] at h


abbrev trowB (f : FuncId) (ds : List D) : Blk := ⟨shR, false, false, .dat (.agg [.slc (.agg [.one, .one]) ds, .fn (.func f) [] []])⟩
def S_tmade : FunT := fun args σ => match args, σ with
  | [AV.ptr (Sh.agg [Sh.one, Sh.one]) 0 0 []], [{ sh := Sh.agg [Sh.one, Sh.one], dyn := false, frz := false, v := AV.dat (D.agg [D.slc (Sh.agg [Sh.one, Sh.one]) ds, D.fn (Fn.func f) [] []]) }] => .leaf ([AV.dat (D.bool true)], [{ sh := Sh.agg [Sh.one, Sh.one], dyn := false, frz := false, v := AV.dat (D.agg [D.slc (Sh.agg [Sh.one, Sh.one]) ds, D.fn (Fn.func f) [] []]) }])
  | _, _ => .fail
theorem tmade_case0 (ds : List D) (f : FuncId) : runF (envOf tab [] [] [] []) true Try.f29 [pR 0] [trowB f ds] = FunT.run S_tmade [pR 0] [trowB f ds] := by kernel_rfl
theorem tmade_ok : FunOk Try.prog 29 (FunT.run S_tmade) := by
  refine fun_ok (E := envOf tab [] [] [] []) (fz := true) (fn := Try.f29) (envOf_ok progOk (.nil _)) (by kernel_rfl) (by kernel_rfl) (loops_none (by kernel_rfl)) ?_
  intro args σ r h
  unfold S_tmade at h
  split at h
  · exact (tmade_case0 _ _).trans h
  · simp [T.run_fail] at h


abbrev Tp2 : Specs := [(20, S_named), (29, S_tmade)]
theorem Tp2_ok : SpecsOk Try.prog Tp2 := .cons named_ok (.cons tmade_ok (.nil _))
def S_thas : FunT := fun args σ => match args, σ with
  | [AV.ptr (Sh.agg [Sh.one, Sh.one]) 0 0 [], AV.dat (D.int IntKind.i64 i)], [{ sh := Sh.agg [Sh.one, Sh.one], dyn := false, frz := false, v := AV.dat (D.agg [D.slc (Sh.agg [Sh.one, Sh.one]) ds, D.fn (Fn.func 20) [] []]) }] => 
    .br (decide (i ≥ (0 : Int))) (
     .br (decide (i < (↑(List.length ds) : Int))) (
      .chk (decide ((0 : Int) ≤ i)) (
       .chk (decide (Int.toNat i < List.length ds)) (
        .chk (okE (Ek.agg [Ek.str, Ek.int IntKind.i64]) (nthD ds (Int.toNat i))) (.leaf ([AV.dat (D.bool !decide (Array.toList (ByteArray.data (D.getS (nthD (D.getL (nthD ds (Int.toNat i))) (0 : Nat)))) = []))], [{ sh := Sh.agg [Sh.one, Sh.one], dyn := false, frz := false, v := AV.dat (D.agg [D.slc (Sh.agg [Sh.one, Sh.one]) ds, D.fn (Fn.func (20 : Nat)) [] []]) }]))))) (.leaf ([AV.dat (D.bool false)], [{ sh := Sh.agg [Sh.one, Sh.one], dyn := false, frz := false, v := AV.dat (D.agg [D.slc (Sh.agg [Sh.one, Sh.one]) ds, D.fn (Fn.func (20 : Nat)) [] []]) }]))) (.leaf ([AV.dat (D.bool false)], [{ sh := Sh.agg [Sh.one, Sh.one], dyn := false, frz := false, v := AV.dat (D.agg [D.slc (Sh.agg [Sh.one, Sh.one]) ds, D.fn (Fn.func (20 : Nat)) [] []]) }]))
  | _, _ => .fail
theorem thas_case0 (ds : List D) (i : Int) : runF (envOf tab Tp2 [] [] []) true Try.f22 [pR 0, .dat (.int .i64 i)] [trowB 20 ds] = FunT.run S_thas [pR 0, .dat (.int .i64 i)] [trowB 20 ds] := by kernel_rfl
theorem thas_ok : FunOk Try.prog 22 (FunT.run S_thas) := by
  refine fun_ok (E := envOf tab Tp2 [] [] []) (fz := true) (fn := Try.f22) (envOf_ok progOk Tp2_ok) (by kernel_rfl) (by kernel_rfl) (loops_none (by kernel_rfl)) ?_
  intro args σ r h
  unfold S_thas at h
  split at h
  · exact (thas_case0 _ _).trans h
  · simp [T.run_fail] at h


abbrev Tp3 : Specs := [(29, S_tmade), (28, S_tcloneO)]
theorem Tp3_ok : SpecsOk Try.prog Tp3 := .cons tmade_ok (.cons tcloneO_ok (.nil _))
def S_tput : FunT := fun args σ => match args, σ with
  | [AV.ptr (Sh.agg [Sh.one, Sh.one]) 0 0 [], AV.dat (D.int IntKind.i64 i), AV.dat (D.agg [D.str s, D.int IntKind.i64 n])], [{ sh := Sh.agg [Sh.one, Sh.one], dyn := false, frz := false, v := AV.dat (D.agg [D.slc (Sh.agg [Sh.one, Sh.one]) ds, D.fn (Fn.func 20) [] []]) }] => 
    .br (decide (i < (0 : Int)) == false) (
     .br (decide (i < (0 : Int))) (.leaf ([AV.dat (D.slc (Sh.agg [Sh.one, Sh.one]) []), AV.dat (D.int IntKind.i64 (1 : Int))], [{ sh := Sh.agg [Sh.one, Sh.one], dyn := false, frz := false, v := AV.dat (D.agg [D.slc (Sh.agg [Sh.one, Sh.one]) ds, D.fn (Fn.func (20 : Nat)) [] []]) }])) (
      .br (decide (i ≥ (↑(List.length ds) : Int))) (.leaf ([AV.dat (D.slc (Sh.agg [Sh.one, Sh.one]) []), AV.dat (D.int IntKind.i64 (1 : Int))], [{ sh := Sh.agg [Sh.one, Sh.one], dyn := false, frz := false, v := AV.dat (D.agg [D.slc (Sh.agg [Sh.one, Sh.one]) ds, D.fn (Fn.func (20 : Nat)) [] []]) }])) (
       .chk (!List.isEmpty ds && fits (Sh.agg [Sh.one, Sh.one]) ds && decide (List.length ds * (24 : Nat) ≤ (35184372088832 : Nat))) (
        .chk (decide ((0 : Int) ≤ i)) (
         .chk (decide (i < (↑(List.length ds) : Int))) (
          .chk (Nat.beq (List.length ds) (List.length ds) && true && true) (
           .chk (decide ((0 : Nat) + Int.toNat i < List.length ds)) (
            .chk (okS (Sh.agg [Sh.one, Sh.one]) (nthD ds ((0 : Nat) + Int.toNat i))) (
             .chk (Sh.eqb (Sh.agg [D.shape (nthD (D.getL (nthD ds ((0 : Nat) + Int.toNat i))) (0 : Nat)), D.shape (nthD (D.getL (nthD ds ((0 : Nat) + Int.toNat i))) (1 : Nat))]) (Sh.agg [Sh.one, Sh.one])) (
              .chk (Nat.beq (List.length (List.set ds ((0 : Nat) + Int.toNat i) (D.agg [D.str s, D.int IntKind.i64 n]))) (List.length ds)) (.leaf ([AV.dat (D.slc (Sh.agg [Sh.one, Sh.one]) (seg (List.set ds ((0 : Nat) + Int.toNat i) (D.agg [D.str s, D.int IntKind.i64 n])) (0 : Nat) (List.length ds))), AV.dat (D.int IntKind.i64 (0 : Int))], [{ sh := Sh.agg [Sh.one, Sh.one], dyn := false, frz := false, v := AV.dat (D.agg [D.slc (Sh.agg [Sh.one, Sh.one]) ds, D.fn (Fn.func (20 : Nat)) [] []]) }])))))))))))) (
     .chk (decide (i < (0 : Int))) (.leaf ([AV.dat (D.slc (Sh.agg [Sh.one, Sh.one]) []), AV.dat (D.int IntKind.i64 (1 : Int))], [{ sh := Sh.agg [Sh.one, Sh.one], dyn := false, frz := false, v := AV.dat (D.agg [D.slc (Sh.agg [Sh.one, Sh.one]) ds, D.fn (Fn.func (20 : Nat)) [] []]) }])))
  | _, _ => .fail
theorem tput_case0 (ds : List D) (i n : Int) (s : ByteArray) : runF (envOf tab Tp3 [] [] []) true Try.f21 [pR 0, .dat (.int .i64 i), .dat (.agg [.str s, .int .i64 n])] [trowB 20 ds] = FunT.run S_tput [pR 0, .dat (.int .i64 i), .dat (.agg [.str s, .int .i64 n])] [trowB 20 ds] := by kernel_rfl
theorem tput_ok : FunOk Try.prog 21 (FunT.run S_tput) := by
  refine fun_ok (E := envOf tab Tp3 [] [] []) (fz := true) (fn := Try.f21) (envOf_ok progOk Tp3_ok) (by kernel_rfl) (by kernel_rfl) (loops_none (by kernel_rfl)) ?_
  intro args σ r h
  unfold S_tput at h
  split at h
  · exact (tput_case0 _ _ _ _).trans h
  · simp [T.run_fail] at h


end Go.Proofs.Ytdgphkifajcejaa
