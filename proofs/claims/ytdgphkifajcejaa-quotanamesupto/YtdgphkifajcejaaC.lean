/- Seat 06: rows of numbers, the rest. -/
import Derived.Test.YtdgphkifajcejaaB
namespace Go.Proofs.Ytdgphkifajcejaa
open Go.AX
set_option maxRecDepth 100000

abbrev Sp1 : Specs := [(25, S_made), (27, S_index)]
theorem Sp1_ok : SpecsOk Try.prog Sp1 := .cons made_ok (.cons index_ok (.nil _))

def S_first : FunT := fun args σ => match args, σ with
  | [AV.ptr (Sh.agg [Sh.one, Sh.one]) 0 0 []], [{ sh := Sh.agg [Sh.one, Sh.one], dyn := false, frz := false, v := AV.dat (D.agg [D.slc Sh.one ds, D.fn (Fn.func 7) [] []]) }] => 
    .chk (decide ((↑(List.length ds) : Int) = (↑(List.length ds) : Int)) && List.all ds (okE (Ek.int IntKind.i64)) && decide (List.length ds ≤ (35184372088832 : Nat))) (.leaf ([AV.dat (D.int IntKind.i64 (bif decide ((bif List.any ds zeroD then (↑(List.findIdx zeroD ds) : Int) else (-1 : Int)) < (0 : Int)) then (0 : Int) else bif List.any ds zeroD then (↑(List.findIdx zeroD ds) : Int) else (-1 : Int))), AV.dat (D.int IntKind.i64 (bif decide ((bif List.any ds zeroD then (↑(List.findIdx zeroD ds) : Int) else (-1 : Int)) < (0 : Int)) then (8 : Int) else (0 : Int)))], [{ sh := Sh.agg [Sh.one, Sh.one], dyn := false, frz := false, v := AV.dat (D.agg [D.slc Sh.one ds, D.fn (Fn.func (7 : Nat)) [] []]) }]))
  | [AV.dat D.nilp], [] => .leaf ([AV.dat (D.int IntKind.i64 (0 : Int)), AV.dat (D.int IntKind.i64 (11 : Int))], [])
  | _, _ => .fail
theorem first_raw0 (ds : List D) : runF (envOf tab Sp1 [] [] []) true Try.f8 [pR 0] [rowB 7 ds] =
  (bif decide ((↑(List.length ds) : Int) = (↑(List.length ds) : Int)) && List.all ds (okE (Ek.int IntKind.i64)) && decide (List.length ds ≤ (35184372088832 : Nat)) then 
   (bif decide ((bif List.any ds zeroD then (↑(List.findIdx zeroD ds) : Int) else (-1 : Int)) < (0 : Int)) then some ([AV.dat (D.int IntKind.i64 (0 : Int)), AV.dat (D.int IntKind.i64 (8 : Int))], [{ sh := Sh.agg [Sh.one, Sh.one], dyn := false, frz := false, v := AV.dat (D.agg [D.slc Sh.one ds, D.fn (Fn.func (7 : Nat)) [] []]) }]) else some ([AV.dat (D.int IntKind.i64 (bif List.any ds zeroD then (↑(List.findIdx zeroD ds) : Int) else (-1 : Int))), AV.dat (D.int IntKind.i64 (0 : Int))], [{ sh := Sh.agg [Sh.one, Sh.one], dyn := false, frz := false, v := AV.dat (D.agg [D.slc Sh.one ds, D.fn (Fn.func (7 : Nat)) [] []]) }])) else none) := by kernel_rfl
theorem first_case0 (ds : List D) : runF (envOf tab Sp1 [] [] []) true Try.f8 [pR 0] [rowB 7 ds] = FunT.run S_first [pR 0] [rowB 7 ds] := (first_raw0 ds).trans (cong2 (cond_cases (fun h0 => (by (try rw [h0]) <;> rfl)) (fun h0 => (by (try rw [h0]) <;> rfl))) rfl)
theorem first_case1  : runF (envOf tab Sp1 [] [] []) true Try.f8 [.dat .nilp] [] = FunT.run S_first [.dat .nilp] [] := by kernel_rfl
theorem first_ok : FunOk Try.prog 8 (FunT.run S_first) := by
  refine fun_ok (E := envOf tab Sp1 [] [] []) (fz := true) (fn := Try.f8) (envOf_ok progOk Sp1_ok) (by kernel_rfl) (by kernel_rfl) (loops_none (by kernel_rfl)) ?_
  intro args σ r h
  unfold S_first at h
  split at h
  · exact (first_case0 _).trans h
  · exact (first_case1).trans h
  · simp [T.run_fail] at h


abbrev Sp2 : Specs := (7, S_there) :: Sp1
theorem Sp2_ok : SpecsOk Try.prog Sp2 := .cons there_ok Sp1_ok
def S_has : FunT := fun args σ => match args, σ with
  | [AV.ptr (Sh.agg [Sh.one, Sh.one]) 0 0 [], AV.dat (D.int IntKind.i64 i)], [{ sh := Sh.agg [Sh.one, Sh.one], dyn := false, frz := false, v := AV.dat (D.agg [D.slc Sh.one ds, D.fn (Fn.func 7) [] []]) }] => 
    .br (decide (i ≥ (0 : Int))) (
     .br (decide (i < (↑(List.length ds) : Int))) (
      .chk (decide ((0 : Int) ≤ i)) (
       .chk (decide (Int.toNat i < List.length ds)) (
        .chk (okE (Ek.int IntKind.i64) (nthD ds (Int.toNat i))) (.leaf ([AV.dat (D.bool (D.getI (nthD ds (Int.toNat i)) != (0 : Int)))], [{ sh := Sh.agg [Sh.one, Sh.one], dyn := false, frz := false, v := AV.dat (D.agg [D.slc Sh.one ds, D.fn (Fn.func (7 : Nat)) [] []]) }]))))) (.leaf ([AV.dat (D.bool false)], [{ sh := Sh.agg [Sh.one, Sh.one], dyn := false, frz := false, v := AV.dat (D.agg [D.slc Sh.one ds, D.fn (Fn.func (7 : Nat)) [] []]) }]))) (.leaf ([AV.dat (D.bool false)], [{ sh := Sh.agg [Sh.one, Sh.one], dyn := false, frz := false, v := AV.dat (D.agg [D.slc Sh.one ds, D.fn (Fn.func (7 : Nat)) [] []]) }]))
  | [AV.dat D.nilp, AV.dat (D.int IntKind.i64 _)], [] => .leaf ([AV.dat (D.bool false)], [])
  | _, _ => .fail
theorem has_case0 (ds : List D) (i : Int) : runF (envOf tab Sp2 [] [] []) true Try.f18 [pR 0, .dat (.int .i64 i)] [rowB 7 ds] = FunT.run S_has [pR 0, .dat (.int .i64 i)] [rowB 7 ds] := by kernel_rfl
theorem has_case1 (i : Int) : runF (envOf tab Sp2 [] [] []) true Try.f18 [.dat .nilp, .dat (.int .i64 i)] [] = FunT.run S_has [.dat .nilp, .dat (.int .i64 i)] [] := by kernel_rfl
theorem has_ok : FunOk Try.prog 18 (FunT.run S_has) := by
  refine fun_ok (E := envOf tab Sp2 [] [] []) (fz := true) (fn := Try.f18) (envOf_ok progOk Sp2_ok) (by kernel_rfl) (by kernel_rfl) (loops_none (by kernel_rfl)) ?_
  intro args σ r h
  unfold S_has at h
  split at h
  · exact (has_case0 _ _).trans h
  · exact (has_case1 _).trans h
  · simp [T.run_fail] at h


abbrev Sp3 : Specs := [(25, S_made), (24, S_cloneO)]
theorem Sp3_ok : SpecsOk Try.prog Sp3 := .cons made_ok (.cons cloneO_ok (.nil _))
def S_put : FunT := fun args σ => match args, σ with
  | [AV.ptr (Sh.agg [Sh.one, Sh.one]) 0 0 [], AV.dat (D.int IntKind.i64 i), AV.dat (D.int IntKind.i64 x)], [{ sh := Sh.agg [Sh.one, Sh.one], dyn := false, frz := false, v := AV.dat (D.agg [D.slc Sh.one ds, D.fn (Fn.func 7) [] []]) }] => 
    .br (decide (i < (0 : Int)) == false) (
     .br (decide (i < (0 : Int))) (.leaf ([AV.dat (D.slc Sh.one []), AV.dat (D.int IntKind.i64 (1 : Int))], [{ sh := Sh.agg [Sh.one, Sh.one], dyn := false, frz := false, v := AV.dat (D.agg [D.slc Sh.one ds, D.fn (Fn.func (7 : Nat)) [] []]) }])) (
      .br (decide (i ≥ (↑(List.length ds) : Int))) (.leaf ([AV.dat (D.slc Sh.one []), AV.dat (D.int IntKind.i64 (1 : Int))], [{ sh := Sh.agg [Sh.one, Sh.one], dyn := false, frz := false, v := AV.dat (D.agg [D.slc Sh.one ds, D.fn (Fn.func (7 : Nat)) [] []]) }])) (
       .chk (!List.isEmpty ds && fits Sh.one ds && decide (List.length ds * (8 : Nat) ≤ (35184372088832 : Nat))) (
        .chk (decide ((0 : Int) ≤ i)) (
         .chk (decide (i < (↑(List.length ds) : Int))) (
          .chk (Nat.beq (List.length ds) (List.length ds) && true && true) (
           .chk (decide ((0 : Nat) + Int.toNat i < List.length ds)) (
            .chk (Sh.eqb (AV.shape (AV.dat (nthD ds ((0 : Nat) + Int.toNat i)))) Sh.one) (
             .chk (Nat.beq (List.length (List.set ds ((0 : Nat) + Int.toNat i) (D.int IntKind.i64 x))) (List.length ds)) (.leaf ([AV.dat (D.slc Sh.one (seg (List.set ds ((0 : Nat) + Int.toNat i) (D.int IntKind.i64 x)) (0 : Nat) (List.length ds))), AV.dat (D.int IntKind.i64 (0 : Int))], [{ sh := Sh.agg [Sh.one, Sh.one], dyn := false, frz := false, v := AV.dat (D.agg [D.slc Sh.one ds, D.fn (Fn.func (7 : Nat)) [] []]) }]))))))))))) (
     .chk (decide (i < (0 : Int))) (.leaf ([AV.dat (D.slc Sh.one []), AV.dat (D.int IntKind.i64 (1 : Int))], [{ sh := Sh.agg [Sh.one, Sh.one], dyn := false, frz := false, v := AV.dat (D.agg [D.slc Sh.one ds, D.fn (Fn.func (7 : Nat)) [] []]) }])))
  | _, _ => .fail
theorem put_case0 (ds : List D) (i x : Int) : runF (envOf tab Sp3 [] [] []) true Try.f10 [pR 0, .dat (.int .i64 i), .dat (.int .i64 x)] [rowB 7 ds] = FunT.run S_put [pR 0, .dat (.int .i64 i), .dat (.int .i64 x)] [rowB 7 ds] := by kernel_rfl
theorem put_ok : FunOk Try.prog 10 (FunT.run S_put) := by
  refine fun_ok (E := envOf tab Sp3 [] [] []) (fz := true) (fn := Try.f10) (envOf_ok progOk Sp3_ok) (by kernel_rfl) (by kernel_rfl) (loops_none (by kernel_rfl)) ?_
  intro args σ r h
  unfold S_put at h
  split at h
  · exact (put_case0 _ _ _).trans h
  · simp [T.run_fail] at h


/-! In better words. -/
def okL (ds : List D) : Bool := ds.all (okE (.int .i64)) && decide (ds.length ≤ 2 ^ 40)
def firstI (ds : List D) : Int := bif ds.any zeroD then (ds.findIdx zeroD : Nat) else 0
def firstE (ds : List D) : Int := bif ds.any zeroD then 0 else 8
def inB (ds : List D) (i : Int) : Bool := decide (0 ≤ i) && decide (i < ds.length)
def hasB (ds : List D) (i : Int) : Bool := inB ds i && (D.getI (nthD ds i.toNat) != 0)
def putL (ds : List D) (i x : Int) : List D := bif inB ds i then ds.set i.toNat (.int .i64 x) else []

theorem okL_spec {ds : List D} (h : okL ds = true) : ds.all (okE (.int .i64)) = true ∧ ds.length ≤ 2 ^ 40 := by
  unfold okL at h
  simpa only [Bool.and_eq_true, decide_eq_true_eq] using h

def C_first : FunT := fun args σ => match args, σ with
  | [.ptr (.agg [.one, .one]) 0 0 []], [⟨.agg [.one, .one], false, false, .dat (.agg [.slc .one ds, .fn (.func 7) [] []])⟩] => .chk (okL ds) (.leaf ([.dat (.int .i64 (firstI ds)), .dat (.int .i64 (firstE ds))], [rowB 7 ds]))
  | [.dat .nilp], [] => .leaf ([.dat (.int .i64 0), .dat (.int .i64 11)], [])
  | _, _ => .fail
theorem cfirst_ok : FunOk Try.prog 8 (FunT.run C_first) := first_ok.of (by
  intro args σ r h
  unfold C_first at h
  split at h
  · rename_i ds
    obtain ⟨hc, h'⟩ := T.chk_some h
    rw [← T.leaf_some h']
    obtain ⟨h1, h2⟩ := okL_spec hc
    have h3 : ds.length ≤ 35184372088832 := by omega
    unfold S_first firstI firstE
    simp only [h1, h3, decide_true, Bool.and_self, T.run_chk, cond_true, T.run_leaf]
    cases ds.any zeroD with
    | true =>
      have : ¬ ((ds.findIdx zeroD : Nat) : Int) < 0 := by omega
      simp only [cond_true, this, decide_false, cond_false]
    | false => rfl
  · exact h
  · simp [T.run_fail] at h)

def C_has : FunT := fun args σ => match args, σ with
  | [.ptr (.agg [.one, .one]) 0 0 [], .dat (.int .i64 i)], [⟨.agg [.one, .one], false, false, .dat (.agg [.slc .one ds, .fn (.func 7) [] []])⟩] => .chk (okL ds) (.leaf ([.dat (.bool (hasB ds i))], [rowB 7 ds]))
  | _, _ => .fail
theorem chas_ok : FunOk Try.prog 18 (FunT.run C_has) := has_ok.of (by
  intro args σ r h
  unfold C_has at h
  split at h
  · rename_i i ds
    obtain ⟨hc, h'⟩ := T.chk_some h
    rw [← T.leaf_some h']
    obtain ⟨h1, h2⟩ := okL_spec hc
    unfold S_has hasB inB
    by_cases g1 : 0 ≤ i
    · by_cases g2 : i < ds.length
      · have g3 : i.toNat < ds.length := by omega
        have g4 := List.all_eq_true.1 h1 _ (nthD_mem g3)
        simp only [ge_iff_le, g1, g2, g3, g4, decide_true, T.run_chk, T.run_br, cond_true, T.run_leaf, Bool.true_and]
      · simp only [ge_iff_le, g1, g2, decide_true, decide_false, T.run_chk, T.run_br, cond_true, cond_false, T.run_leaf, Bool.and_false, Bool.false_and]
    · simp only [ge_iff_le, g1, decide_false, T.run_br, cond_false, T.run_leaf, Bool.false_and]
  · simp [T.run_fail] at h)

theorem inB_spec {ds : List D} {i : Int} (h : inB ds i = true) : 0 ≤ i ∧ i < ds.length := by
  unfold inB at h
  simpa only [Bool.and_eq_true, decide_eq_true_eq] using h

def C_put : FunT := fun args σ => match args, σ with
  | [.ptr (.agg [.one, .one]) 0 0 [], .dat (.int .i64 i), .dat (.int .i64 x)], [⟨.agg [.one, .one], false, false, .dat (.agg [.slc .one ds, .fn (.func 7) [] []])⟩] => .chk (okL ds) (.leaf ([.dat (.slc .one (putL ds i x)), .dat (.int .i64 (bif inB ds i then 0 else 1))], [rowB 7 ds]))
  | _, _ => .fail
theorem cput_ok : FunOk Try.prog 10 (FunT.run C_put) := put_ok.of (by
  intro args σ r h
  unfold C_put at h
  split at h
  · rename_i i x ds
    obtain ⟨hc, h'⟩ := T.chk_some h
    rw [← T.leaf_some h']
    obtain ⟨h1, h2⟩ := okL_spec hc
    unfold S_put putL
    cases hi : inB ds i with
    | true =>
      obtain ⟨g1, g2⟩ := inB_spec hi
      have g3 : i.toNat < ds.length := by omega
      have g4 := List.all_eq_true.1 h1 _ (nthD_mem g3)
      have g5 : ¬ i < 0 := by omega
      have g6 : ¬ i ≥ ds.length := by omega
      have g7 : ds.length * 8 ≤ 35184372088832 := by omega
      have g8 : (Sh.eqb (AV.shape (AV.dat (nthD ds i.toNat))) Sh.one) = true := by
        rw [okE] at g4
        cases hd : nthD ds i.toNat <;> rw [hd] at g4 <;> simp [D.isI] at g4
        rfl
      have g9 : ds.isEmpty = false := by cases ds with | nil => simp at g3 | cons => rfl
      have e : seg (ds.set i.toNat (D.int .i64 x)) 0 ds.length = ds.set i.toNat (D.int .i64 x) := by
        have := seg_full (ds.set i.toNat (D.int .i64 x))
        rwa [List.length_set] at this
      simp only [ge_iff_le, g1, g2, g3, g5, g7, g8, g9, e, Nat.zero_add, okE_int_fits h1, decide_true, decide_false, beq_self_eq_true, T.run_chk, T.run_br, cond_true, cond_false, T.run_leaf, Bool.and_self, Bool.not_false, List.length_set, Nat.beq_refl, (show ¬ (ds.length : Int) ≤ i by omega)]
    | false =>
      simp only [cond_false]
      by_cases g1 : i < 0
      · simp only [g1, decide_true, T.run_br, T.run_chk, cond_true, cond_false, T.run_leaf, show (true == false) = false from rfl]
      · have g2 : i ≥ ds.length := by
          unfold inB at hi
          rw [decide_eq_true (show 0 ≤ i by omega), Bool.true_and] at hi
          have := of_decide_eq_false hi
          omega
        simp only [g1, g2, decide_true, decide_false, T.run_br, cond_true, cond_false, T.run_leaf, beq_self_eq_true]
  · simp [T.run_fail] at h)

def addL (ds : List D) (x : Int) : List D := bif ds.any zeroD then ds.set (ds.findIdx zeroD) (.int .i64 x) else []
abbrev Sp4 : Specs := [(8, C_first), (10, C_put)]
theorem Sp4_ok : SpecsOk Try.prog Sp4 := .cons cfirst_ok (.cons cput_ok (.nil _))
def S_add : FunT := fun args σ => match args, σ with
  | [AV.ptr (Sh.agg [Sh.one, Sh.one]) 0 0 [], AV.dat (D.int IntKind.i64 x)], [{ sh := Sh.agg [Sh.one, Sh.one], dyn := false, frz := false, v := AV.dat (D.agg [D.slc Sh.one ds, D.fn (Fn.func 7) [] []]) }] => 
    .chk (okL ds) (
     .br (firstE ds != (0 : Int)) (.leaf ([AV.dat (D.slc Sh.one []), AV.dat (D.int IntKind.i64 (0 : Int)), AV.dat (D.int IntKind.i64 (firstE ds))], [{ sh := Sh.agg [Sh.one, Sh.one], dyn := false, frz := false, v := AV.dat (D.agg [D.slc Sh.one ds, D.fn (Fn.func (7 : Nat)) [] []]) }])) (
      .chk (okL ds) (.leaf ([AV.dat (D.slc Sh.one (putL ds (firstI ds) x)), AV.dat (D.int IntKind.i64 (firstI ds)), AV.dat (D.int IntKind.i64 (bif inB ds (firstI ds) then (0 : Int) else (1 : Int)))], [{ sh := Sh.agg [Sh.one, Sh.one], dyn := false, frz := false, v := AV.dat (D.agg [D.slc Sh.one ds, D.fn (Fn.func (7 : Nat)) [] []]) }]))))
  | _, _ => .fail
theorem add_case0 (ds : List D) (x : Int) : runF (envOf tab Sp4 [] [] []) true Try.f12 [pR 0, .dat (.int .i64 x)] [rowB 7 ds] = FunT.run S_add [pR 0, .dat (.int .i64 x)] [rowB 7 ds] := by kernel_rfl
theorem add_ok : FunOk Try.prog 12 (FunT.run S_add) := by
  refine fun_ok (E := envOf tab Sp4 [] [] []) (fz := true) (fn := Try.f12) (envOf_ok progOk Sp4_ok) (by kernel_rfl) (by kernel_rfl) (loops_none (by kernel_rfl)) ?_
  intro args σ r h
  unfold S_add at h
  split at h
  · exact (add_case0 _ _).trans h
  · simp [T.run_fail] at h


theorem first_in {ds : List D} (h : ds.any zeroD = true) : inB ds ((ds.findIdx zeroD : Nat) : Int) = true := by
  have h' : ds.findIdx zeroD < ds.length := List.findIdx_lt_length_of_exists (by simpa [List.any_eq_true] using h)
  unfold inB
  rw [decide_eq_true (by omega), decide_eq_true (by omega)]; rfl

def C_add : FunT := fun args σ => match args, σ with
  | [.ptr (.agg [.one, .one]) 0 0 [], .dat (.int .i64 x)], [⟨.agg [.one, .one], false, false, .dat (.agg [.slc .one ds, .fn (.func 7) [] []])⟩] => .chk (okL ds) (.leaf ([.dat (.slc .one (addL ds x)), .dat (.int .i64 (firstI ds)), .dat (.int .i64 (firstE ds))], [rowB 7 ds]))
  | _, _ => .fail
theorem cadd_ok : FunOk Try.prog 12 (FunT.run C_add) := add_ok.of (by
  intro args σ r h
  unfold C_add at h
  split at h
  · rename_i x ds
    obtain ⟨hc, h'⟩ := T.chk_some h
    rw [← T.leaf_some h']
    unfold S_add addL firstI firstE putL
    cases hz : ds.any zeroD with
    | true =>
      simp only [hc, hz, cond_true, first_in hz, Int.toNat_natCast, T.run_chk, T.run_br, T.run_leaf, bne_self_eq_false, cond_false]
    | false => simp only [hc, hz, cond_true, cond_false, T.run_chk, T.run_br, T.run_leaf, show ((8 : Int) != 0) = true from rfl]
  · simp [T.run_fail] at h)

end Go.Proofs.Ytdgphkifajcejaa
