/- Seat 20: wire, and the document's. -/
import Derived.Test.YtdmmobjegfhneaaB
namespace Go.Proofs.Ytdmmobjegfhneaa
open Go.AX
set_option maxRecDepth 100000
def own_pre (ds : List D) : Bool := decide ((↑(List.length ds) : Int) = (↑(List.length ds) : Int)) && decide (Int.toNat (↑(List.length ds) : Int) ≤ List.length ds)
def C_own : FunT := fun args σ => match args, σ with
  | [AV.dat (D.slc Sh.one ds)], [] => .chk ((own_pre ds)) (.leaf ([AV.fslc Sh.one (seg ds 0 (Int.toNat (↑(List.length ds) : Int) - 0))], []))
  | _, _ => .fail
theorem own_raw0 (ds : List D) : runF (envOf tab [] [] [] []) false Try.f40 [.dat (.slc .one ds)] [] =
  (bif decide ((↑(List.length ds) : Int) = (↑(List.length ds) : Int)) then
   (bif decide (Int.toNat (↑(List.length ds) : Int) ≤ List.length ds) then some ([AV.fslc Sh.one (seg ds 0 (Int.toNat (↑(List.length ds) : Int) - 0))], []) else none) else none) := by kernel_rfl
theorem own_case0 (ds : List D) : runF (envOf tab [] [] [] []) false Try.f40 [.dat (.slc .one ds)] [] = FunT.run C_own [.dat (.slc .one ds)] [] := (own_raw0 ds).trans (by
  show _ = (cond (decide ((↑(List.length ds) : Int) = (↑(List.length ds) : Int)) && decide (Int.toNat (↑(List.length ds) : Int) ≤ List.length ds)) (some (([AV.fslc Sh.one (seg ds 0 (Int.toNat (↑(List.length ds) : Int) - 0))], []) : Res)) none)
  generalize (decide ((↑(List.length ds) : Int) = (↑(List.length ds) : Int))) = z0
  generalize (decide (Int.toNat (↑(List.length ds) : Int) ≤ List.length ds)) = z1
  cases z0 with
  | true =>
   cases z1 with
   | true =>
    rfl
   | false =>
    rfl
  | false =>
   rfl
  )
theorem cown_ok : FunOk Try.prog 40 (FunT.run C_own) := by
  refine fun_ok (E := envOf tab [] [] [] []) (fz := false) (fn := Try.f40) (envOf_ok progOk (.nil _)) (by kernel_rfl) (by kernel_rfl) (loops_none (by kernel_rfl)) ?_
  intro args σ r h
  unfold C_own at h
  split at h
  · exact (own_case0 _).trans h
  · simp [T.run_fail] at h
def fit_v0 (n : Int) : Int := if 8 < if 1 > n then 1 else n then 8 else if 1 > n then 1 else n
def C_fit : FunT := fun args σ => match args, σ with
  | [AV.dat (D.int IntKind.i64 n)], [] => .leaf ([AV.dat (D.int IntKind.i64 (fit_v0 n))], [])
  | _, _ => .fail
theorem fit_raw0 (n : Int) : runF (envOf tab [] [] [] []) true Try.f54 [.dat (.int .i64 n)] [] =some ([.dat (.int .i64 (if 8 < if 1 > n then 1 else n then 8 else if 1 > n then 1 else n))], []) := by kernel_rfl
theorem fit_case0 (n : Int) : runF (envOf tab [] [] [] []) true Try.f54 [.dat (.int .i64 n)] [] = FunT.run C_fit [.dat (.int .i64 n)] [] := (fit_raw0 n).trans (by
  show _ = (some (([.dat (.int .i64 (if 8 < if 1 > n then 1 else n then 8 else if 1 > n then 1 else n))], []) : Res))
  rfl
  )
theorem cfit_ok : FunOk Try.prog 54 (FunT.run C_fit) := by
  refine fun_ok (E := envOf tab [] [] [] []) (fz := true) (fn := Try.f54) (envOf_ok progOk (.nil _)) (by kernel_rfl) (by kernel_rfl) (loops_none (by kernel_rfl)) ?_
  intro args σ r h
  unfold C_fit at h
  split at h
  · exact (fit_case0 _).trans h
  · simp [T.run_fail] at h
def size_v0 (n : Int) : Int := bif decide (n < 1) then 1 else bif decide (8 < n) then 8 else n
def C_size : FunT := fun args σ => match args, σ with
  | [AV.dat (D.int IntKind.i64 n)], [] => .leaf ([AV.dat (D.int IntKind.i64 (size_v0 n))], [])
  | _, _ => .fail
theorem size_raw0 (n : Int) : runF (envOf tab [] [] [] []) true Try.f58 [.dat (.int .i64 n)] [] =
  (bif decide (n < 1) then some ([.dat (.int .i64 1)], []) else
   (bif decide (n > 8) then some ([.dat (.int .i64 8)], []) else some ([.dat (.int .i64 n)], []))) := by kernel_rfl
theorem size_case0 (n : Int) : runF (envOf tab [] [] [] []) true Try.f58 [.dat (.int .i64 n)] [] = FunT.run C_size [.dat (.int .i64 n)] [] := (size_raw0 n).trans (by
  show _ = (some (([.dat (.int .i64 (bif decide (n < 1) then 1 else bif decide (8 < n) then 8 else n))], []) : Res))
  generalize (decide (8 < n)) = z0
  generalize (decide (n < 1)) = z1
  cases z1 with
  | true =>
   rfl
  | false =>
   cases z0 with
   | true =>
    rfl
   | false =>
    rfl
  )
theorem csize_ok : FunOk Try.prog 58 (FunT.run C_size) := by
  refine fun_ok (E := envOf tab [] [] [] []) (fz := true) (fn := Try.f58) (envOf_ok progOk (.nil _)) (by kernel_rfl) (by kernel_rfl) (loops_none (by kernel_rfl)) ?_
  intro args σ r h
  unfold C_size at h
  split at h
  · exact (size_case0 _).trans h
  · simp [T.run_fail] at h
abbrev SpF0 : Specs := [(40, C_own), (54, C_fit), (58, C_size)]
theorem SpF0_ok : SpecsOk Try.prog SpF0 := .cons cown_ok (.cons cfit_ok (.cons csize_ok (.nil _)))
def wn_fr (n : Int) : (Int × Nat × Nat × List D) → Frame' := fun ⟨i, m, k, _⟩ => mkF 29 [(1, .dat (.int .u64 n)), (7, .sref .one 0 m [] 0 k), (8, .dat (.int .i64 i))]
def wn_st (_n : Int) : (Int × Nat × Nat × List D) → Store := fun ⟨_, _, _, out⟩ => [mkDyn .one out]
def wn_step (n : Int) : (Int × Nat × Nat × List D) → T ((Int × Nat × Nat × List D) ⊕ LOut) := fun ⟨i, m, k, out⟩ =>
  .chk (!decide (0 ≤ i) || decide (0 ≤ IntKind.wrap IntKind.i64 (8 * i)) && (Nat.beq (List.length out) m && true && true && true && true && Nat.beq k m && true && true && decide ((m + 1) * 1 ≤ 35184372088832))) (
   .br (!decide (0 ≤ i)) (.leaf (.inr ((some 0), mkF 29 [(7, AV.sref Sh.one 0 m [] 0 k)], [{ sh := Sh.arr Sh.one 0, dyn := true, frz := false, v := .dat (.arr Sh.one out) }]))) (.leaf (.inl ((IntKind.wrap IntKind.i64 (i - 1)), (m + 1), (m + 1), (out ++ [D.int IntKind.u8 (IntKind.wrap IntKind.u8 (Int.fdiv n (2 ^ min (Int.toNat (IntKind.wrap IntKind.i64 (8 * i))) 64)))])))))
theorem wn_round (lp : Loops) (n : Int) (i : Int) (m k : Nat) (out : List D) (K : Kt) : oneRound (envOf tab SpF0 [] lp []) Try.f33 0 (1) (mkF 29 [(1, .dat (.int .u64 n)), (7, .sref .one 0 m [] 0 k), (8, .dat (.int .i64 i))]) ([mkDyn .one out]) K =
  (bif decide (i ≥ 0) then
   (bif decide (0 ≤ IntKind.wrap IntKind.i64 (8 * i)) then
    (bif Nat.beq (List.length out) m && true && true && true && true && Nat.beq k m && true && true && decide ((m + 1) * 1 ≤ 35184372088832) then K (Exit.normal) (mkF 29 [(1, .dat (.int IntKind.u64 n)), (7, AV.sref Sh.one 0 (m + 1) [] 0 (m + 1)), (8, .dat (.int .i64 (IntKind.wrap IntKind.i64 (i - 1)))), (18, .dat (.int .i64 i)), (19, .dat (.int .i64 (IntKind.wrap IntKind.i64 (i - 1))))]) ([{ sh := Sh.arr Sh.one 0, dyn := true, frz := false, v := .dat (.arr Sh.one (out ++ [D.int IntKind.u8 (IntKind.wrap IntKind.u8 (Int.fdiv n (2 ^ min (Int.toNat (IntKind.wrap IntKind.i64 (8 * i))) 64)))])) }, { sh := Sh.arr Sh.one 0, dyn := true, frz := false, v := .dat (.arr Sh.one [D.int IntKind.u8 (IntKind.wrap IntKind.u8 (Int.fdiv n (2 ^ min (Int.toNat (IntKind.wrap IntKind.i64 (8 * i))) 64)))]) }]) else none) else none) else K (Exit.exit 0) (mkF 29 [(7, AV.sref Sh.one 0 m [] 0 k)]) ([{ sh := Sh.arr Sh.one 0, dyn := true, frz := false, v := .dat (.arr Sh.one out) }])) := by kernel_rfl
theorem wn_hr (lp : Loops) (n : Int) : ∀ (sA : (Int × Nat × Nat × List D)) (K : Kt) (N : (Int × Nat × Nat × List D) → Option Res), (∀ sB fr' σ', cleanF (liveAt Try.f33 0) 0 fr' = wn_fr n sB → trim (1) (wn_fr n sB) σ' = wn_st n sB → K .normal fr' σ' = N sB) →
    oneRound (envOf tab SpF0 [] lp []) Try.f33 0 (1) (wn_fr n sA) (wn_st n sA) K = (wn_step n sA).k (LK K N) := by
  intro sA K N hN
  obtain ⟨i, m, k, out⟩ := sA
  refine (wn_round lp n i m k out K).trans ?_
  show _ = T.k ((
  .chk (!decide (0 ≤ i) || decide (0 ≤ IntKind.wrap IntKind.i64 (8 * i)) && (Nat.beq (List.length out) m && true && true && true && true && Nat.beq k m && true && true && decide ((m + 1) * 1 ≤ 35184372088832))) (
   .br (!decide (0 ≤ i)) (.leaf (.inr ((some 0), mkF 29 [(7, AV.sref Sh.one 0 m [] 0 k)], [{ sh := Sh.arr Sh.one 0, dyn := true, frz := false, v := .dat (.arr Sh.one out) }]))) (.leaf (.inl ((IntKind.wrap IntKind.i64 (i - 1)), (m + 1), (m + 1), (out ++ [D.int IntKind.u8 (IntKind.wrap IntKind.u8 (Int.fdiv n (2 ^ min (Int.toNat (IntKind.wrap IntKind.i64 (8 * i))) 64)))])))))) : T ((Int × Nat × Nat × List D) ⊕ LOut)) (LK K N)
  generalize (Nat.beq (List.length out) m && true && true && true && true && Nat.beq k m && true && true && decide ((m + 1) * 1 ≤ 35184372088832)) = z0
  generalize (decide (0 ≤ IntKind.wrap IntKind.i64 (8 * i))) = z1
  generalize (decide (0 ≤ i)) = z2
  cases z2 with
  | true =>
   cases z1 with
   | true =>
    cases z0 with
    | true =>
     exact hN _ _ _ (by kernel_rfl) (by kernel_rfl)
    | false =>
     rfl
   | false =>
    rfl
  | false =>
   rfl
theorem wn_enter (n : Int) (i : Int) (m k : Nat) (out : List D) (fr : Frame') (hl : Nat.beq fr.length 29 = true) (g1 : fr.getD 1 .undef = .dat (.int IntKind.u64 n)) (g7 : fr.getD 7 .undef = AV.sref Sh.one 0 m [] 0 k) (g8 : fr.getD 8 .undef = .dat (.int .i64 i)) : cleanF (liveAt Try.f33 0) 0 fr = wn_fr n (i, m, k, out) := by
  have e : liveAt Try.f33 0 = [1, 8, 7] := by kernel_rfl
  rw [clean_mk (Nat.eq_of_beq_eq_true hl), e]
  show mkF 29 [(1, fr.getD 1 .undef), (8, fr.getD 8 .undef), (7, fr.getD 7 .undef)] = _
  rw [g1, g8, g7]
  kernel_rfl
def rn_fr (b : List D) (m k : Nat) : (Int × Int × List D) → Frame' := fun ⟨i, n, _⟩ => mkF 38 [(0, .dat (.slc .one b)), (1, .dat (.int .u64 n)), (8, .sref .one 0 m [] 0 k), (9, .dat (.int .i64 i))]
def rn_st (_b : List D) (_m _k : Nat) : (Int × Int × List D) → Store := fun ⟨_, _, out⟩ => [mkDyn .one out]
def rn_step (b : List D) (m k : Nat) : (Int × Int × List D) → T ((Int × Int × List D) ⊕ LOut) := fun ⟨i, n, out⟩ =>
  .chk (!decide ((↑(List.length b) : Int) ≤ i) || decide (0 ≤ i) && (decide (i < (↑k : Int)) && (Nat.beq (List.length out) m && (decide (0 + Int.toNat i < List.length out) && Sh.eqb (D.shape (nthD out (0 + Int.toNat i))) Sh.one)))) (
   .br (!decide ((↑(List.length b) : Int) ≤ i)) (.leaf (.inr ((some 0), mkF 38 [(8, AV.sref Sh.one 0 m [] 0 k)], [{ sh := Sh.arr Sh.one 0, dyn := true, frz := false, v := .dat (.arr Sh.one out) }]))) (.leaf (.inl ((IntKind.wrap IntKind.i64 (i - 1)), (IntKind.wrap IntKind.u64 (Int.tdiv n 256)), (List.set out (0 + Int.toNat i) (D.int IntKind.u8 (IntKind.wrap IntKind.u8 (Int.tmod n 256))))))))
theorem rn_round (lp : Loops) (b : List D) (m k : Nat) (i n : Int) (out : List D) (K : Kt) : oneRound (envOf tab SpF0 [] lp []) Try.f34 0 (1) (mkF 38 [(0, .dat (.slc .one b)), (1, .dat (.int .u64 n)), (8, .sref .one 0 m [] 0 k), (9, .dat (.int .i64 i))]) ([mkDyn .one out]) K =
  (bif decide (i ≥ (↑(List.length b) : Int)) then
   (bif decide (0 ≤ i) then
    (bif decide (i < (↑k : Int)) then
     (bif Nat.beq (List.length out) m && true && true && true then
      (bif decide (0 + Int.toNat i < List.length out) then
       (bif Sh.eqb (D.shape (nthD out (0 + Int.toNat i))) Sh.one then K (Exit.normal) (mkF 38 [(0, .dat (.slc Sh.one b)), (1, .dat (.int IntKind.u64 (IntKind.wrap IntKind.u64 (Int.tdiv n 256)))), (8, AV.sref Sh.one 0 m [] 0 k), (9, .dat (.int .i64 (IntKind.wrap IntKind.i64 (i - 1)))), (27, .dat (.int .i64 i)), (28, .dat (.int .i64 (IntKind.wrap IntKind.i64 (i - 1))))]) ([{ sh := Sh.arr Sh.one 0, dyn := true, frz := false, v := .dat (.arr Sh.one (List.set out (0 + Int.toNat i) (D.int IntKind.u8 (IntKind.wrap IntKind.u8 (Int.tmod n 256))))) }]) else none) else none) else none) else none) else none) else K (Exit.exit 0) (mkF 38 [(8, AV.sref Sh.one 0 m [] 0 k)]) ([{ sh := Sh.arr Sh.one 0, dyn := true, frz := false, v := .dat (.arr Sh.one out) }])) := by kernel_rfl
theorem rn_hr (lp : Loops) (b : List D) (m k : Nat) : ∀ (sA : (Int × Int × List D)) (K : Kt) (N : (Int × Int × List D) → Option Res), (∀ sB fr' σ', cleanF (liveAt Try.f34 0) 0 fr' = rn_fr b m k sB → trim (1) (rn_fr b m k sB) σ' = rn_st b m k sB → K .normal fr' σ' = N sB) →
    oneRound (envOf tab SpF0 [] lp []) Try.f34 0 (1) (rn_fr b m k sA) (rn_st b m k sA) K = (rn_step b m k sA).k (LK K N) := by
  intro sA K N hN
  obtain ⟨i, n, out⟩ := sA
  refine (rn_round lp b m k i n out K).trans ?_
  show _ = T.k ((
  .chk (!decide ((↑(List.length b) : Int) ≤ i) || decide (0 ≤ i) && (decide (i < (↑k : Int)) && (Nat.beq (List.length out) m && (decide (0 + Int.toNat i < List.length out) && Sh.eqb (D.shape (nthD out (0 + Int.toNat i))) Sh.one)))) (
   .br (!decide ((↑(List.length b) : Int) ≤ i)) (.leaf (.inr ((some 0), mkF 38 [(8, AV.sref Sh.one 0 m [] 0 k)], [{ sh := Sh.arr Sh.one 0, dyn := true, frz := false, v := .dat (.arr Sh.one out) }]))) (.leaf (.inl ((IntKind.wrap IntKind.i64 (i - 1)), (IntKind.wrap IntKind.u64 (Int.tdiv n 256)), (List.set out (0 + Int.toNat i) (D.int IntKind.u8 (IntKind.wrap IntKind.u8 (Int.tmod n 256))))))))) : T ((Int × Int × List D) ⊕ LOut)) (LK K N)
  generalize (decide (0 + Int.toNat i < List.length out)) = z0
  generalize (Sh.eqb (D.shape (nthD out (0 + Int.toNat i))) Sh.one) = z1
  generalize (decide ((↑(List.length b) : Int) ≤ i)) = z2
  generalize (decide (0 ≤ i)) = z3
  generalize (decide (i < (↑k : Int))) = z4
  generalize (Nat.beq (List.length out) m) = z5
  cases z2 with
  | true =>
   cases z3 with
   | true =>
    cases z4 with
    | true =>
     cases z5 with
     | true =>
      cases z0 with
      | true =>
       cases z1 with
       | true =>
        exact hN _ _ _ (by kernel_rfl) (by kernel_rfl)
       | false =>
        rfl
      | false =>
       rfl
     | false =>
      rfl
    | false =>
     rfl
   | false =>
    rfl
  | false =>
   rfl
theorem rn_enter (b : List D) (m k : Nat) (i n : Int) (out : List D) (fr : Frame') (hl : Nat.beq fr.length 38 = true) (g0 : fr.getD 0 .undef = .dat (.slc Sh.one b)) (g1 : fr.getD 1 .undef = .dat (.int IntKind.u64 n)) (g8 : fr.getD 8 .undef = AV.sref Sh.one 0 m [] 0 k) (g9 : fr.getD 9 .undef = .dat (.int .i64 i)) : cleanF (liveAt Try.f34 0) 0 fr = rn_fr b m k (i, n, out) := by
  have e : liveAt Try.f34 0 = [0, 1, 9, 8] := by kernel_rfl
  rw [clean_mk (Nat.eq_of_beq_eq_true hl), e]
  show mkF 38 [(0, fr.getD 0 .undef), (1, fr.getD 1 .undef), (9, fr.getD 9 .undef), (8, fr.getD 8 .undef)] = _
  rw [g0, g1, g9, g8]
  kernel_rfl
abbrev scP : AV := .ptr (.agg [.one, .one, .one]) 0 0 []
abbrev scB (ds : List D) (f : Int) (b : Bool) : Blk := ⟨.agg [.one, .one, .one], false, false, .dat (.agg [.slc .one ds, .int .i64 f, .bool b])⟩
abbrev rcB (ds : List D) (a e : Int) : Blk := ⟨.agg [.one, .one, .one], false, false, .dat (.agg [.slc .one ds, .int .i64 a, .int .i64 e])⟩
def C_frm : FunT := fun args σ => match args, σ with
  | [AV.dat (D.slc Sh.one ds)], [] => .chk (own_pre ds) (.leaf ([AV.ptr (s52) 0 0 []], [{ sh := s52, dyn := false, frz := false, v := AV.dat (D.agg [D.slc Sh.one (seg ds 0 (Int.toNat (↑(List.length ds) : Int) - 0)), D.int IntKind.i64 0, D.bool true]) }]))
  | _, _ => .fail
theorem frm_raw0 (ds : List D) : runF (envOf tab SpF0 [] [] []) false Try.f27 [.dat (.slc .one ds)] [] =
  (bif own_pre ds then some ([AV.ptr (s52) 0 0 []], [{ sh := s52, dyn := false, frz := false, v := .dat (.agg [D.slc Sh.one (seg ds 0 (Int.toNat (↑(List.length ds) : Int) - 0)), D.int .i64 0, D.bool true]) }]) else none) := by kernel_rfl
theorem frm_case0 (ds : List D) : runF (envOf tab SpF0 [] [] []) false Try.f27 [.dat (.slc .one ds)] [] = FunT.run C_frm [.dat (.slc .one ds)] [] := (frm_raw0 ds).trans (by
  show _ = (cond (own_pre ds) (some (([AV.ptr (s52) 0 0 []], [{ sh := s52, dyn := false, frz := false, v := .dat (.agg [D.slc Sh.one (seg ds 0 (Int.toNat (↑(List.length ds) : Int) - 0)), D.int .i64 0, D.bool true]) }]) : Res)) none)
  generalize (own_pre ds) = z0
  cases z0 with
  | true =>
   rfl
  | false =>
   rfl
  )
theorem cfrm_ok : FunOk Try.prog 27 (FunT.run C_frm) := by
  refine fun_ok (E := envOf tab SpF0 [] [] []) (fz := false) (fn := Try.f27) (envOf_ok progOk SpF0_ok) (by kernel_rfl) (by kernel_rfl) (loops_none (by kernel_rfl)) ?_
  intro args σ r h
  unfold C_frm at h
  split at h
  · exact (frm_case0 _).trans h
  · simp [T.run_fail] at h
def fault_v0 (f : Int) (b : Bool) : Int := bif b then f else 11
def C_fault : FunT := fun args σ => match args, σ with
  | [AV.ptr (Sh.agg [Sh.one, Sh.one, Sh.one]) 0 0 []], [{ sh := Sh.agg [Sh.one, Sh.one, Sh.one], dyn := false, frz := false, v := AV.dat (D.agg [D.slc Sh.one ds, D.int IntKind.i64 f, D.bool b]) }] => .leaf ([AV.dat (D.int IntKind.i64 (fault_v0 f b))], [{ sh := s52, dyn := false, frz := false, v := AV.dat (D.agg [D.slc Sh.one ds, D.int IntKind.i64 f, D.bool b]) }])
  | _, _ => .fail
theorem fault_raw0 (ds : List D) (f : Int) (b : Bool) : runF (envOf tab [] [] [] []) true Try.f56 [scP] [scB ds f b] =
  (bif !b then some ([.dat (.int .i64 11)], [{ sh := s52, dyn := false, frz := false, v := .dat (.agg [D.slc Sh.one ds, D.int .i64 f, D.bool b]) }]) else some ([.dat (.int .i64 f)], [{ sh := s52, dyn := false, frz := false, v := .dat (.agg [D.slc Sh.one ds, D.int .i64 f, D.bool b]) }])) := by kernel_rfl
theorem fault_case0 (ds : List D) (f : Int) (b : Bool) : runF (envOf tab [] [] [] []) true Try.f56 [scP] [scB ds f b] = FunT.run C_fault [scP] [scB ds f b] := (fault_raw0 ds f b).trans (by
  show _ = (some (([.dat (.int .i64 (bif b then f else 11))], [{ sh := s52, dyn := false, frz := false, v := .dat (.agg [D.slc Sh.one ds, D.int .i64 f, D.bool b]) }]) : Res))
  generalize (b) = z0
  cases z0 with
  | true =>
   rfl
  | false =>
   rfl
  )
theorem cfault_ok : FunOk Try.prog 56 (FunT.run C_fault) := by
  refine fun_ok (E := envOf tab [] [] [] []) (fz := true) (fn := Try.f56) (envOf_ok progOk (.nil _)) (by kernel_rfl) (by kernel_rfl) (loops_none (by kernel_rfl)) ?_
  intro args σ r h
  unfold C_fault at h
  split at h
  · exact (fault_case0 _ _ _).trans h
  · simp [T.run_fail] at h
abbrev SpF1 : Specs := [(56, C_fault)]
theorem SpF1_ok : SpecsOk Try.prog SpF1 := .cons cfault_ok (.nil _)
def C_fine : FunT := fun args σ => match args, σ with
  | [AV.ptr (Sh.agg [Sh.one, Sh.one, Sh.one]) 0 0 []], [{ sh := Sh.agg [Sh.one, Sh.one, Sh.one], dyn := false, frz := false, v := AV.dat (D.agg [D.slc Sh.one ds, D.int IntKind.i64 f, D.bool b]) }] => .leaf ([AV.dat (D.bool (fault_v0 f b == 0))], [{ sh := s52, dyn := false, frz := false, v := AV.dat (D.agg [D.slc Sh.one ds, D.int IntKind.i64 f, D.bool b]) }])
  | _, _ => .fail
theorem fine_raw0 (ds : List D) (f : Int) (b : Bool) : runF (envOf tab SpF1 [] [] []) true Try.f67 [scP] [scB ds f b] =some ([.dat (.bool (fault_v0 f b == 0))], [{ sh := s52, dyn := false, frz := false, v := .dat (.agg [D.slc Sh.one ds, D.int .i64 f, D.bool b]) }]) := by kernel_rfl
theorem fine_case0 (ds : List D) (f : Int) (b : Bool) : runF (envOf tab SpF1 [] [] []) true Try.f67 [scP] [scB ds f b] = FunT.run C_fine [scP] [scB ds f b] := (fine_raw0 ds f b).trans (by
  show _ = (some (([.dat (.bool (fault_v0 f b == 0))], [{ sh := s52, dyn := false, frz := false, v := .dat (.agg [D.slc Sh.one ds, D.int .i64 f, D.bool b]) }]) : Res))
  rfl
  )
theorem cfine_ok : FunOk Try.prog 67 (FunT.run C_fine) := by
  refine fun_ok (E := envOf tab SpF1 [] [] []) (fz := true) (fn := Try.f67) (envOf_ok progOk SpF1_ok) (by kernel_rfl) (by kernel_rfl) (loops_none (by kernel_rfl)) ?_
  intro args σ r h
  unfold C_fine at h
  split at h
  · exact (fine_case0 _ _ _).trans h
  · simp [T.run_fail] at h
abbrev SpF2 : Specs := (67, C_fine) :: SpF1
theorem SpF2_ok : SpecsOk Try.prog SpF2 := .cons cfine_ok SpF1_ok
def left_v0 (ds : List D) (f : Int) (b : Bool) : Int := bif fault_v0 f b == 0 then (↑(List.length ds) : Int) else 0
def C_left : FunT := fun args σ => match args, σ with
  | [AV.ptr (Sh.agg [Sh.one, Sh.one, Sh.one]) 0 0 []], [{ sh := Sh.agg [Sh.one, Sh.one, Sh.one], dyn := false, frz := false, v := AV.dat (D.agg [D.slc Sh.one ds, D.int IntKind.i64 f, D.bool b]) }] => .leaf ([AV.dat (D.int IntKind.i64 (left_v0 ds f b))], [{ sh := s52, dyn := false, frz := false, v := AV.dat (D.agg [D.slc Sh.one ds, D.int IntKind.i64 f, D.bool b]) }])
  | _, _ => .fail
theorem left_raw0 (ds : List D) (f : Int) (b : Bool) : runF (envOf tab SpF2 [] [] []) true Try.f55 [scP] [scB ds f b] =
  (bif !fault_v0 f b == 0 then some ([.dat (.int .i64 0)], [{ sh := s52, dyn := false, frz := false, v := .dat (.agg [D.slc Sh.one ds, D.int .i64 f, D.bool b]) }]) else some ([.dat (.int .i64 (↑(List.length ds) : Int))], [{ sh := s52, dyn := false, frz := false, v := .dat (.agg [D.slc Sh.one ds, D.int .i64 f, D.bool b]) }])) := by kernel_rfl
theorem left_case0 (ds : List D) (f : Int) (b : Bool) : runF (envOf tab SpF2 [] [] []) true Try.f55 [scP] [scB ds f b] = FunT.run C_left [scP] [scB ds f b] := (left_raw0 ds f b).trans (by
  show _ = (some (([.dat (.int .i64 (bif fault_v0 f b == 0 then (↑(List.length ds) : Int) else 0))], [{ sh := s52, dyn := false, frz := false, v := .dat (.agg [D.slc Sh.one ds, D.int .i64 f, D.bool b]) }]) : Res))
  generalize (fault_v0 f b == 0) = z0
  cases z0 with
  | true =>
   rfl
  | false =>
   rfl
  )
theorem cleft_ok : FunOk Try.prog 55 (FunT.run C_left) := by
  refine fun_ok (E := envOf tab SpF2 [] [] []) (fz := true) (fn := Try.f55) (envOf_ok progOk SpF2_ok) (by kernel_rfl) (by kernel_rfl) (loops_none (by kernel_rfl)) ?_
  intro args σ r h
  unfold C_left at h
  split at h
  · exact (left_case0 _ _ _).trans h
  · simp [T.run_fail] at h
def rule_v0 (f : Int) (e : Int) (b : Bool) (ok : Bool) : Int := bif ok then f else bif fault_v0 f b == 0 then e else f
def C_rule : FunT := fun args σ => match args, σ with
  | [AV.ptr (Sh.agg [Sh.one, Sh.one, Sh.one]) 0 0 [], AV.dat (D.bool ok), AV.dat (D.int IntKind.i64 e)], [{ sh := Sh.agg [Sh.one, Sh.one, Sh.one], dyn := false, frz := false, v := AV.dat (D.agg [D.slc Sh.one ds, D.int IntKind.i64 f, D.bool b]) }] => .leaf ([], [{ sh := s52, dyn := false, frz := false, v := AV.dat (D.agg [D.slc Sh.one ds, D.int IntKind.i64 (rule_v0 f e b ok), D.bool b]) }])
  | _, _ => .fail
theorem rule_raw0 (ds : List D) (f e : Int) (b ok : Bool) : runF (envOf tab SpF2 [] [] []) true Try.f66 [scP, .dat (.bool ok), .dat (.int .i64 e)] [scB ds f b] =
  (bif !ok then
   (bif fault_v0 f b == 0 then some ([], [{ sh := s52, dyn := false, frz := false, v := .dat (.agg [D.slc Sh.one ds, D.int .i64 e, D.bool b]) }]) else some ([], [{ sh := s52, dyn := false, frz := false, v := .dat (.agg [D.slc Sh.one ds, D.int .i64 f, D.bool b]) }])) else some ([], [{ sh := s52, dyn := false, frz := false, v := .dat (.agg [D.slc Sh.one ds, D.int .i64 f, D.bool b]) }])) := by kernel_rfl
theorem rule_case0 (ds : List D) (f e : Int) (b ok : Bool) : runF (envOf tab SpF2 [] [] []) true Try.f66 [scP, .dat (.bool ok), .dat (.int .i64 e)] [scB ds f b] = FunT.run C_rule [scP, .dat (.bool ok), .dat (.int .i64 e)] [scB ds f b] := (rule_raw0 ds f e b ok).trans (by
  show _ = (some (([], [{ sh := s52, dyn := false, frz := false, v := .dat (.agg [D.slc Sh.one ds, D.int .i64 (bif ok then f else bif fault_v0 f b == 0 then e else f), D.bool b]) }]) : Res))
  generalize (fault_v0 f b == 0) = z0
  generalize (ok) = z1
  cases z1 with
  | true =>
   rfl
  | false =>
   cases z0 with
   | true =>
    rfl
   | false =>
    rfl
  )
theorem crule_ok : FunOk Try.prog 66 (FunT.run C_rule) := by
  refine fun_ok (E := envOf tab SpF2 [] [] []) (fz := true) (fn := Try.f66) (envOf_ok progOk SpF2_ok) (by kernel_rfl) (by kernel_rfl) (loops_none (by kernel_rfl)) ?_
  intro args σ r h
  unfold C_rule at h
  split at h
  · exact (rule_case0 _ _ _ _ _).trans h
  · simp [T.run_fail] at h
abbrev SpF3 : Specs := (55, C_left) :: (66, C_rule) :: SpF2
theorem SpF3_ok : SpecsOk Try.prog SpF3 := .cons cleft_ok (.cons crule_ok SpF2_ok)
def endd_v0 (ds : List D) (f : Int) (b : Bool) : Int := bif decide (0 < left_v0 ds f b) then 13 else fault_v0 f b
def C_endd : FunT := fun args σ => match args, σ with
  | [AV.ptr (Sh.agg [Sh.one, Sh.one, Sh.one]) 0 0 []], [{ sh := Sh.agg [Sh.one, Sh.one, Sh.one], dyn := false, frz := false, v := AV.dat (D.agg [D.slc Sh.one ds, D.int IntKind.i64 f, D.bool b]) }] => .leaf ([AV.dat (D.int IntKind.i64 (endd_v0 ds f b))], [{ sh := s52, dyn := false, frz := false, v := AV.dat (D.agg [D.slc Sh.one ds, D.int IntKind.i64 f, D.bool b]) }])
  | _, _ => .fail
theorem endd_raw0 (ds : List D) (f : Int) (b : Bool) : runF (envOf tab SpF3 [] [] []) true Try.f30 [scP] [scB ds f b] =
  (bif decide (left_v0 ds f b > 0) then some ([.dat (.int .i64 13)], [{ sh := s52, dyn := false, frz := false, v := .dat (.agg [D.slc Sh.one ds, D.int .i64 f, D.bool b]) }]) else some ([.dat (.int .i64 (fault_v0 f b))], [{ sh := s52, dyn := false, frz := false, v := .dat (.agg [D.slc Sh.one ds, D.int .i64 f, D.bool b]) }])) := by kernel_rfl
theorem endd_case0 (ds : List D) (f : Int) (b : Bool) : runF (envOf tab SpF3 [] [] []) true Try.f30 [scP] [scB ds f b] = FunT.run C_endd [scP] [scB ds f b] := (endd_raw0 ds f b).trans (by
  show _ = (some (([.dat (.int .i64 (bif decide (0 < left_v0 ds f b) then 13 else fault_v0 f b))], [{ sh := s52, dyn := false, frz := false, v := .dat (.agg [D.slc Sh.one ds, D.int .i64 f, D.bool b]) }]) : Res))
  generalize (decide (0 < left_v0 ds f b)) = z0
  cases z0 with
  | true =>
   rfl
  | false =>
   rfl
  )
theorem cendd_ok : FunOk Try.prog 30 (FunT.run C_endd) := by
  refine fun_ok (E := envOf tab SpF3 [] [] []) (fz := true) (fn := Try.f30) (envOf_ok progOk SpF3_ok) (by kernel_rfl) (by kernel_rfl) (loops_none (by kernel_rfl)) ?_
  intro args σ r h
  unfold C_endd at h
  split at h
  · exact (endd_case0 _ _ _).trans h
  · simp [T.run_fail] at h
def take_v0 (ds : List D) (f : Int) (n : Int) (b : Bool) : List D := bif fault_v0 (rule_v0 f 12 b (decide ((if 0 > n then 0 else n) ≤ left_v0 ds f b))) b == 0 then seg (seg ds 0 (Int.toNat (if 0 > n then 0 else n) - 0)) 0 (0 + List.length (seg ds 0 (Int.toNat (if 0 > n then 0 else n) - 0))) else []
def take_v1 (ds : List D) (f : Int) (n : Int) (b : Bool) : List D := bif fault_v0 (rule_v0 f 12 b (decide ((if 0 > n then 0 else n) ≤ left_v0 ds f b))) b == 0 then seg ds (Int.toNat (if 0 > n then 0 else n)) (List.length ds - Int.toNat (if 0 > n then 0 else n)) else ds
def take_v2 (ds : List D) (f : Int) (n : Int) (b : Bool) : Int := rule_v0 f 12 b (decide ((if 0 > n then 0 else n) ≤ left_v0 ds f b))
def take_pre (ds : List D) (f : Int) (n : Int) (b : Bool) : Bool := !fault_v0 (rule_v0 f 12 b (decide ((if 0 > n then 0 else n) ≤ left_v0 ds f b))) b == 0 || decide (0 ≤ if 0 > n then 0 else n) && (decide (Int.toNat (if 0 > n then 0 else n) ≤ List.length ds) && (decide (Int.toNat (if 0 > n then 0 else n) ≤ List.length ds) && decide (List.length ds ≤ List.length ds) && (fits Sh.one (seg ds 0 (Int.toNat (if 0 > n then 0 else n) - 0)) && (decide ((0 + List.length (seg ds 0 (Int.toNat (if 0 > n then 0 else n) - 0))) * 1 ≤ 35184372088832) && Nat.beq (List.length (seg ds 0 (Int.toNat (if 0 > n then 0 else n) - 0))) (0 + List.length (seg ds 0 (Int.toNat (if 0 > n then 0 else n) - 0)))))))
def C_take : FunT := fun args σ => match args, σ with
  | [AV.ptr (Sh.agg [Sh.one, Sh.one, Sh.one]) 0 0 [], AV.dat (D.int IntKind.i64 n)], [{ sh := Sh.agg [Sh.one, Sh.one, Sh.one], dyn := false, frz := false, v := AV.dat (D.agg [D.slc Sh.one ds, D.int IntKind.i64 f, D.bool b]) }] => .chk ((take_pre ds f n b)) (.leaf ([AV.dat (D.slc Sh.one (take_v0 ds f n b))], [{ sh := s52, dyn := false, frz := false, v := AV.dat (D.agg [D.slc Sh.one (take_v1 ds f n b), D.int IntKind.i64 (take_v2 ds f n b), D.bool b]) }]))
  | _, _ => .fail
theorem take_raw0 (ds : List D) (f n : Int) (b : Bool) : runF (envOf tab SpF3 [] [] []) true Try.f53 [scP, .dat (.int .i64 n)] [scB ds f b] =
  (bif !fault_v0 (rule_v0 f 12 b (decide ((if 0 > n then 0 else n) ≤ left_v0 ds f b))) b == 0 then some ([.dat (.slc Sh.one [])], [{ sh := s52, dyn := false, frz := false, v := .dat (.agg [D.slc Sh.one ds, D.int .i64 (rule_v0 f 12 b (decide ((if 0 > n then 0 else n) ≤ left_v0 ds f b))), D.bool b]) }]) else
   (bif decide (0 ≤ if 0 > n then 0 else n) then
    (bif decide (Int.toNat (if 0 > n then 0 else n) ≤ List.length ds) then
     (bif decide (0 ≤ if 0 > n then 0 else n) then
      (bif decide (Int.toNat (if 0 > n then 0 else n) ≤ List.length ds) && decide (List.length ds ≤ List.length ds) then
       (bif fits Sh.one (seg ds 0 (Int.toNat (if 0 > n then 0 else n) - 0)) then
        (bif decide ((0 + List.length (seg ds 0 (Int.toNat (if 0 > n then 0 else n) - 0))) * 1 ≤ 35184372088832) then
         (bif Nat.beq (List.length (seg ds 0 (Int.toNat (if 0 > n then 0 else n) - 0))) (0 + List.length (seg ds 0 (Int.toNat (if 0 > n then 0 else n) - 0))) then some ([.dat (.slc Sh.one (seg (seg ds 0 (Int.toNat (if 0 > n then 0 else n) - 0)) 0 (0 + List.length (seg ds 0 (Int.toNat (if 0 > n then 0 else n) - 0)))))], [{ sh := s52, dyn := false, frz := false, v := .dat (.agg [D.slc Sh.one (seg ds (Int.toNat (if 0 > n then 0 else n)) (List.length ds - Int.toNat (if 0 > n then 0 else n))), D.int .i64 (rule_v0 f 12 b (decide ((if 0 > n then 0 else n) ≤ left_v0 ds f b))), D.bool b]) }]) else none) else none) else none) else none) else none) else none) else none)) := by kernel_rfl
theorem take_case0 (ds : List D) (f n : Int) (b : Bool) : runF (envOf tab SpF3 [] [] []) true Try.f53 [scP, .dat (.int .i64 n)] [scB ds f b] = FunT.run C_take [scP, .dat (.int .i64 n)] [scB ds f b] := (take_raw0 ds f n b).trans (by
  show _ = (cond (!fault_v0 (rule_v0 f 12 b (decide ((if 0 > n then 0 else n) ≤ left_v0 ds f b))) b == 0 || decide (0 ≤ if 0 > n then 0 else n) && (decide (Int.toNat (if 0 > n then 0 else n) ≤ List.length ds) && (decide (Int.toNat (if 0 > n then 0 else n) ≤ List.length ds) && decide (List.length ds ≤ List.length ds) && (fits Sh.one (seg ds 0 (Int.toNat (if 0 > n then 0 else n) - 0)) && (decide ((0 + List.length (seg ds 0 (Int.toNat (if 0 > n then 0 else n) - 0))) * 1 ≤ 35184372088832) && Nat.beq (List.length (seg ds 0 (Int.toNat (if 0 > n then 0 else n) - 0))) (0 + List.length (seg ds 0 (Int.toNat (if 0 > n then 0 else n) - 0)))))))) (some (([.dat (.slc Sh.one (bif fault_v0 (rule_v0 f 12 b (decide ((if 0 > n then 0 else n) ≤ left_v0 ds f b))) b == 0 then seg (seg ds 0 (Int.toNat (if 0 > n then 0 else n) - 0)) 0 (0 + List.length (seg ds 0 (Int.toNat (if 0 > n then 0 else n) - 0))) else []))], [{ sh := s52, dyn := false, frz := false, v := .dat (.agg [D.slc Sh.one (bif fault_v0 (rule_v0 f 12 b (decide ((if 0 > n then 0 else n) ≤ left_v0 ds f b))) b == 0 then seg ds (Int.toNat (if 0 > n then 0 else n)) (List.length ds - Int.toNat (if 0 > n then 0 else n)) else ds), D.int .i64 (rule_v0 f 12 b (decide ((if 0 > n then 0 else n) ≤ left_v0 ds f b))), D.bool b]) }]) : Res)) none)
  generalize (decide ((0 + List.length (seg ds 0 (Int.toNat (if 0 > n then 0 else n) - 0))) * 1 ≤ 35184372088832)) = z0
  generalize (Nat.beq (List.length (seg ds 0 (Int.toNat (if 0 > n then 0 else n) - 0))) (0 + List.length (seg ds 0 (Int.toNat (if 0 > n then 0 else n) - 0)))) = z1
  generalize (fault_v0 (rule_v0 f 12 b (decide ((if 0 > n then 0 else n) ≤ left_v0 ds f b))) b == 0) = z2
  generalize (decide (Int.toNat (if 0 > n then 0 else n) ≤ List.length ds) && decide (List.length ds ≤ List.length ds)) = z3
  generalize (decide (0 ≤ if 0 > n then 0 else n)) = z4
  generalize (decide (Int.toNat (if 0 > n then 0 else n) ≤ List.length ds)) = z5
  generalize (fits Sh.one (seg ds 0 (Int.toNat (if 0 > n then 0 else n) - 0))) = z6
  cases z2 with
  | true =>
   cases z4 with
   | true =>
    cases z5 with
    | true =>
     cases z3 with
     | true =>
      cases z6 with
      | true =>
       cases z0 with
       | true =>
        cases z1 with
        | true =>
         rfl
        | false =>
         rfl
       | false =>
        rfl
      | false =>
       rfl
     | false =>
      rfl
    | false =>
     rfl
   | false =>
    rfl
  | false =>
   rfl
  )
theorem ctake_ok : FunOk Try.prog 53 (FunT.run C_take) := by
  refine fun_ok (E := envOf tab SpF3 [] [] []) (fz := true) (fn := Try.f53) (envOf_ok progOk SpF3_ok) (by kernel_rfl) (by kernel_rfl) (loops_none (by kernel_rfl)) ?_
  intro args σ r h
  unfold C_take at h
  split at h
  · exact (take_case0 _ _ _ _).trans h
  · simp [T.run_fail] at h
def rtake_v0 (ds : List D) (a : Int) (e : Int) (n : Int) : List D := bif decide (n < 0) then bif e != 0 then [] else bif decide (IntKind.wrap IntKind.i64 ((↑(List.length ds) : Int) - a) < 0) then [] else seg ds (Int.toNat a) (Int.toNat (IntKind.wrap IntKind.i64 (a + 0)) - Int.toNat a) else bif e != 0 then [] else bif decide (IntKind.wrap IntKind.i64 ((↑(List.length ds) : Int) - a) < n) then [] else seg ds (Int.toNat a) (Int.toNat (IntKind.wrap IntKind.i64 (a + n)) - Int.toNat a)
def rtake_v1 (ds : List D) (a : Int) (e : Int) (n : Int) : Int := bif decide (n < 0) then bif e != 0 then a else bif decide (IntKind.wrap IntKind.i64 ((↑(List.length ds) : Int) - a) < 0) then a else IntKind.wrap IntKind.i64 (a + 0) else bif e != 0 then a else bif decide (IntKind.wrap IntKind.i64 ((↑(List.length ds) : Int) - a) < n) then a else IntKind.wrap IntKind.i64 (a + n)
def rtake_v2 (ds : List D) (a : Int) (e : Int) (n : Int) : Int := bif decide (n < 0) then bif e != 0 then e else bif decide (IntKind.wrap IntKind.i64 ((↑(List.length ds) : Int) - a) < 0) then 12 else e else bif e != 0 then e else bif decide (IntKind.wrap IntKind.i64 ((↑(List.length ds) : Int) - a) < n) then 12 else e
def rtake_pre (ds : List D) (a : Int) (e : Int) (n : Int) : Bool := bif decide (n < 0) then e != 0 || (decide (IntKind.wrap IntKind.i64 ((↑(List.length ds) : Int) - a) < 0) || decide (0 ≤ IntKind.wrap IntKind.i64 (a + 0)) && (decide (0 ≤ a) && (decide (Int.toNat a ≤ Int.toNat (IntKind.wrap IntKind.i64 (a + 0))) && decide (Int.toNat (IntKind.wrap IntKind.i64 (a + 0)) ≤ List.length ds)))) else e != 0 || (decide (IntKind.wrap IntKind.i64 ((↑(List.length ds) : Int) - a) < n) || decide (0 ≤ IntKind.wrap IntKind.i64 (a + n)) && (decide (0 ≤ a) && (decide (Int.toNat a ≤ Int.toNat (IntKind.wrap IntKind.i64 (a + n))) && decide (Int.toNat (IntKind.wrap IntKind.i64 (a + n)) ≤ List.length ds))))
def C_rtake : FunT := fun args σ => match args, σ with
  | [AV.ptr (Sh.agg [Sh.one, Sh.one, Sh.one]) 0 0 [], AV.dat (D.int IntKind.i64 n)], [{ sh := Sh.agg [Sh.one, Sh.one, Sh.one], dyn := false, frz := false, v := AV.dat (D.agg [D.slc Sh.one ds, D.int IntKind.i64 a, D.int IntKind.i64 e]) }] => .chk ((rtake_pre ds a e n)) (.leaf ([AV.dat (D.slc Sh.one (rtake_v0 ds a e n))], [{ sh := s52, dyn := false, frz := false, v := AV.dat (D.agg [D.slc Sh.one ds, D.int IntKind.i64 (rtake_v1 ds a e n), D.int IntKind.i64 (rtake_v2 ds a e n)]) }]))
  | _, _ => .fail
theorem rtake_raw0 (ds : List D) (a e n : Int) : runF (envOf tab [] [] [] []) true Try.f57 [scP, .dat (.int .i64 n)] [rcB ds a e] =
  (bif decide (n < 0) then
   (bif e != 0 then some ([.dat (.slc Sh.one [])], [{ sh := s52, dyn := false, frz := false, v := .dat (.agg [D.slc Sh.one ds, D.int .i64 a, D.int .i64 e]) }]) else
    (bif decide (0 > IntKind.wrap IntKind.i64 ((↑(List.length ds) : Int) - a)) then some ([.dat (.slc Sh.one [])], [{ sh := s52, dyn := false, frz := false, v := .dat (.agg [D.slc Sh.one ds, D.int .i64 a, D.int .i64 12]) }]) else
     (bif decide (0 ≤ IntKind.wrap IntKind.i64 (a + 0)) then
      (bif decide (0 ≤ a) then
       (bif decide (Int.toNat a ≤ Int.toNat (IntKind.wrap IntKind.i64 (a + 0))) && decide (Int.toNat (IntKind.wrap IntKind.i64 (a + 0)) ≤ List.length ds) then some ([.dat (.slc Sh.one (seg ds (Int.toNat a) (Int.toNat (IntKind.wrap IntKind.i64 (a + 0)) - Int.toNat a)))], [{ sh := s52, dyn := false, frz := false, v := .dat (.agg [D.slc Sh.one ds, D.int .i64 (IntKind.wrap IntKind.i64 (a + 0)), D.int .i64 e]) }]) else none) else none) else none))) else
   (bif e != 0 then some ([.dat (.slc Sh.one [])], [{ sh := s52, dyn := false, frz := false, v := .dat (.agg [D.slc Sh.one ds, D.int .i64 a, D.int .i64 e]) }]) else
    (bif decide (n > IntKind.wrap IntKind.i64 ((↑(List.length ds) : Int) - a)) then some ([.dat (.slc Sh.one [])], [{ sh := s52, dyn := false, frz := false, v := .dat (.agg [D.slc Sh.one ds, D.int .i64 a, D.int .i64 12]) }]) else
     (bif decide (0 ≤ IntKind.wrap IntKind.i64 (a + n)) then
      (bif decide (0 ≤ a) then
       (bif decide (Int.toNat a ≤ Int.toNat (IntKind.wrap IntKind.i64 (a + n))) && decide (Int.toNat (IntKind.wrap IntKind.i64 (a + n)) ≤ List.length ds) then some ([.dat (.slc Sh.one (seg ds (Int.toNat a) (Int.toNat (IntKind.wrap IntKind.i64 (a + n)) - Int.toNat a)))], [{ sh := s52, dyn := false, frz := false, v := .dat (.agg [D.slc Sh.one ds, D.int .i64 (IntKind.wrap IntKind.i64 (a + n)), D.int .i64 e]) }]) else none) else none) else none)))) := by kernel_rfl
theorem rtake_case0 (ds : List D) (a e n : Int) : runF (envOf tab [] [] [] []) true Try.f57 [scP, .dat (.int .i64 n)] [rcB ds a e] = FunT.run C_rtake [scP, .dat (.int .i64 n)] [rcB ds a e] := (rtake_raw0 ds a e n).trans (by
  show _ = (cond (bif decide (n < 0) then e != 0 || (decide (IntKind.wrap IntKind.i64 ((↑(List.length ds) : Int) - a) < 0) || decide (0 ≤ IntKind.wrap IntKind.i64 (a + 0)) && (decide (0 ≤ a) && (decide (Int.toNat a ≤ Int.toNat (IntKind.wrap IntKind.i64 (a + 0))) && decide (Int.toNat (IntKind.wrap IntKind.i64 (a + 0)) ≤ List.length ds)))) else e != 0 || (decide (IntKind.wrap IntKind.i64 ((↑(List.length ds) : Int) - a) < n) || decide (0 ≤ IntKind.wrap IntKind.i64 (a + n)) && (decide (0 ≤ a) && (decide (Int.toNat a ≤ Int.toNat (IntKind.wrap IntKind.i64 (a + n))) && decide (Int.toNat (IntKind.wrap IntKind.i64 (a + n)) ≤ List.length ds))))) (some (([.dat (.slc Sh.one (bif decide (n < 0) then bif e != 0 then [] else bif decide (IntKind.wrap IntKind.i64 ((↑(List.length ds) : Int) - a) < 0) then [] else seg ds (Int.toNat a) (Int.toNat (IntKind.wrap IntKind.i64 (a + 0)) - Int.toNat a) else bif e != 0 then [] else bif decide (IntKind.wrap IntKind.i64 ((↑(List.length ds) : Int) - a) < n) then [] else seg ds (Int.toNat a) (Int.toNat (IntKind.wrap IntKind.i64 (a + n)) - Int.toNat a)))], [{ sh := s52, dyn := false, frz := false, v := .dat (.agg [D.slc Sh.one ds, D.int .i64 (bif decide (n < 0) then bif e != 0 then a else bif decide (IntKind.wrap IntKind.i64 ((↑(List.length ds) : Int) - a) < 0) then a else IntKind.wrap IntKind.i64 (a + 0) else bif e != 0 then a else bif decide (IntKind.wrap IntKind.i64 ((↑(List.length ds) : Int) - a) < n) then a else IntKind.wrap IntKind.i64 (a + n)), D.int .i64 (bif decide (n < 0) then bif e != 0 then e else bif decide (IntKind.wrap IntKind.i64 ((↑(List.length ds) : Int) - a) < 0) then 12 else e else bif e != 0 then e else bif decide (IntKind.wrap IntKind.i64 ((↑(List.length ds) : Int) - a) < n) then 12 else e)]) }]) : Res)) none)
  generalize (decide (Int.toNat a ≤ Int.toNat (IntKind.wrap IntKind.i64 (a + 0))) && decide (Int.toNat (IntKind.wrap IntKind.i64 (a + 0)) ≤ List.length ds)) = z0
  generalize (decide (Int.toNat a ≤ Int.toNat (IntKind.wrap IntKind.i64 (a + n))) && decide (Int.toNat (IntKind.wrap IntKind.i64 (a + n)) ≤ List.length ds)) = z1
  generalize (decide (IntKind.wrap IntKind.i64 ((↑(List.length ds) : Int) - a) < 0)) = z2
  generalize (decide (0 ≤ IntKind.wrap IntKind.i64 (a + 0))) = z3
  generalize (decide (IntKind.wrap IntKind.i64 ((↑(List.length ds) : Int) - a) < n)) = z4
  generalize (decide (0 ≤ IntKind.wrap IntKind.i64 (a + n))) = z5
  generalize (decide (n < 0)) = z6
  generalize (decide (0 ≤ a)) = z7
  generalize (e != 0) = z8
  cases z6 with
  | true =>
   cases z8 with
   | true =>
    rfl
   | false =>
    cases z2 with
    | true =>
     rfl
    | false =>
     cases z3 with
     | true =>
      cases z7 with
      | true =>
       cases z0 with
       | true =>
        rfl
       | false =>
        rfl
      | false =>
       rfl
     | false =>
      rfl
  | false =>
   cases z8 with
   | true =>
    rfl
   | false =>
    cases z4 with
    | true =>
     rfl
    | false =>
     cases z5 with
     | true =>
      cases z7 with
      | true =>
       cases z1 with
       | true =>
        rfl
       | false =>
        rfl
      | false =>
       rfl
     | false =>
      rfl
  )
theorem crtake_ok : FunOk Try.prog 57 (FunT.run C_rtake) := by
  refine fun_ok (E := envOf tab [] [] [] []) (fz := true) (fn := Try.f57) (envOf_ok progOk (.nil _)) (by kernel_rfl) (by kernel_rfl) (loops_none (by kernel_rfl)) ?_
  intro args σ r h
  unfold C_rtake at h
  split at h
  · exact (rtake_case0 _ _ _ _).trans h
  · simp [T.run_fail] at h
def rend_v0 (ds : List D) (a : Int) (e : Int) : Int := bif e == 0 then bif decide (a < (↑(List.length ds) : Int)) then 13 else e else e
def C_rend : FunT := fun args σ => match args, σ with
  | [AV.ptr (Sh.agg [Sh.one, Sh.one, Sh.one]) 0 0 []], [{ sh := Sh.agg [Sh.one, Sh.one, Sh.one], dyn := false, frz := false, v := AV.dat (D.agg [D.slc Sh.one ds, D.int IntKind.i64 a, D.int IntKind.i64 e]) }] => .leaf ([AV.dat (D.int IntKind.i64 (rend_v0 ds a e))], [{ sh := s52, dyn := false, frz := false, v := AV.dat (D.agg [D.slc Sh.one ds, D.int IntKind.i64 a, D.int IntKind.i64 e]) }])
  | _, _ => .fail
theorem rend_raw0 (ds : List D) (a e : Int) : runF (envOf tab [] [] [] []) true Try.f32 [scP] [rcB ds a e] =
  (bif e == 0 then
   (bif decide (a < (↑(List.length ds) : Int)) then some ([.dat (.int .i64 13)], [{ sh := s52, dyn := false, frz := false, v := .dat (.agg [D.slc Sh.one ds, D.int .i64 a, D.int .i64 e]) }]) else some ([.dat (.int .i64 e)], [{ sh := s52, dyn := false, frz := false, v := .dat (.agg [D.slc Sh.one ds, D.int .i64 a, D.int .i64 e]) }])) else some ([.dat (.int .i64 e)], [{ sh := s52, dyn := false, frz := false, v := .dat (.agg [D.slc Sh.one ds, D.int .i64 a, D.int .i64 e]) }])) := by kernel_rfl
theorem rend_case0 (ds : List D) (a e : Int) : runF (envOf tab [] [] [] []) true Try.f32 [scP] [rcB ds a e] = FunT.run C_rend [scP] [rcB ds a e] := (rend_raw0 ds a e).trans (by
  show _ = (some (([.dat (.int .i64 (bif e == 0 then bif decide (a < (↑(List.length ds) : Int)) then 13 else e else e))], [{ sh := s52, dyn := false, frz := false, v := .dat (.agg [D.slc Sh.one ds, D.int .i64 a, D.int .i64 e]) }]) : Res))
  generalize (decide (a < (↑(List.length ds) : Int))) = z0
  generalize (e == 0) = z1
  cases z1 with
  | true =>
   cases z0 with
   | true =>
    rfl
   | false =>
    rfl
  | false =>
   rfl
  )
theorem crend_ok : FunOk Try.prog 32 (FunT.run C_rend) := by
  refine fun_ok (E := envOf tab [] [] [] []) (fz := true) (fn := Try.f32) (envOf_ok progOk (.nil _)) (by kernel_rfl) (by kernel_rfl) (loops_none (by kernel_rfl)) ?_
  intro args σ r h
  unfold C_rend at h
  split at h
  · exact (rend_case0 _ _ _).trans h
  · simp [T.run_fail] at h
abbrev SpF4 : Specs := [(53, C_take), (54, C_fit), (57, C_rtake), (58, C_size)]
theorem SpF4_ok : SpecsOk Try.prog SpF4 := .cons ctake_ok (.cons cfit_ok (.cons crtake_ok (.cons csize_ok (.nil _))))
def sn_fr (l _ds : List D) (_f c : Int) (_b : Bool) : (Int × Int) → Frame' := fun ⟨i, n⟩ => mkF 24 [(5, .dat (.int .u64 n)), (11, .dat (.slc .one l)), (12, .dat (.int .i64 c)), (13, .dat (.int .i64 i))]
def sn_st (_l ds : List D) (f _c : Int) (b : Bool) : (Int × Int) → Store := fun ⟨_, _⟩ => [scB ds f b]
def sn_step (l ds : List D) (f c : Int) (b : Bool) : (Int × Int) → T ((Int × Int) ⊕ LOut) := fun ⟨i, n⟩ =>
  .chk (!decide (i < c) || decide (0 ≤ i) && (decide (Int.toNat i < List.length l) && okE (Ek.int IntKind.u8) (nthD l (Int.toNat i)))) (
   .br (!decide (i < c)) (.leaf (.inr ((some 0), mkF 24 [(5, .dat (.int IntKind.u64 n))], [{ sh := s52, dyn := false, frz := false, v := .dat (.agg [D.slc Sh.one ds, D.int .i64 f, D.bool b]) }]))) (.leaf (.inl ((IntKind.wrap IntKind.i64 (i + 1)), (IntKind.wrap IntKind.u64 (↑(BitVec.toNat (BitVec.ofInt 64 (IntKind.wrap IntKind.u64 (n * 256)) ||| BitVec.ofInt 64 (IntKind.wrap IntKind.u64 (D.getI (nthD l (Int.toNat i)))))) : Int))))))
theorem sn_round (lp : Loops) (l ds : List D) (f c : Int) (b : Bool) (i n : Int) (K : Kt) : oneRound (envOf tab SpF4 [] lp []) Try.f29 0 (1) (mkF 24 [(5, .dat (.int .u64 n)), (11, .dat (.slc .one l)), (12, .dat (.int .i64 c)), (13, .dat (.int .i64 i))]) ([scB ds f b]) K =
  (bif decide (i < c) then
   (bif decide (0 ≤ i) then
    (bif decide (Int.toNat i < List.length l) then
     (bif okE (Ek.int IntKind.u8) (nthD l (Int.toNat i)) then K (Exit.normal) (mkF 24 [(5, .dat (.int IntKind.u64 (IntKind.wrap IntKind.u64 (↑(BitVec.toNat (BitVec.ofInt 64 (IntKind.wrap IntKind.u64 (n * 256)) ||| BitVec.ofInt 64 (IntKind.wrap IntKind.u64 (D.getI (nthD l (Int.toNat i)))))) : Int)))), (11, .dat (.slc Sh.one l)), (12, .dat (.int .i64 c)), (13, .dat (.int .i64 (IntKind.wrap IntKind.i64 (i + 1)))), (14, .dat (.bool (decide (i < c)))), (22, .dat (.int .i64 (IntKind.wrap IntKind.i64 (i + 1))))]) ([{ sh := s52, dyn := false, frz := false, v := .dat (.agg [D.slc Sh.one ds, D.int .i64 f, D.bool b]) }]) else none) else none) else none) else K (Exit.exit 0) (mkF 24 [(5, .dat (.int IntKind.u64 n))]) ([{ sh := s52, dyn := false, frz := false, v := .dat (.agg [D.slc Sh.one ds, D.int .i64 f, D.bool b]) }])) := by kernel_rfl
theorem sn_hr (lp : Loops) (l ds : List D) (f c : Int) (b : Bool) : ∀ (sA : (Int × Int)) (K : Kt) (N : (Int × Int) → Option Res), (∀ sB fr' σ', cleanF (liveAt Try.f29 0) 0 fr' = sn_fr l ds f c b sB → trim (1) (sn_fr l ds f c b sB) σ' = sn_st l ds f c b sB → K .normal fr' σ' = N sB) →
    oneRound (envOf tab SpF4 [] lp []) Try.f29 0 (1) (sn_fr l ds f c b sA) (sn_st l ds f c b sA) K = (sn_step l ds f c b sA).k (LK K N) := by
  intro sA K N hN
  obtain ⟨i, n⟩ := sA
  refine (sn_round lp l ds f c b i n K).trans ?_
  show _ = T.k ((
  .chk (!decide (i < c) || decide (0 ≤ i) && (decide (Int.toNat i < List.length l) && okE (Ek.int IntKind.u8) (nthD l (Int.toNat i)))) (
   .br (!decide (i < c)) (.leaf (.inr ((some 0), mkF 24 [(5, .dat (.int IntKind.u64 n))], [{ sh := s52, dyn := false, frz := false, v := .dat (.agg [D.slc Sh.one ds, D.int .i64 f, D.bool b]) }]))) (.leaf (.inl ((IntKind.wrap IntKind.i64 (i + 1)), (IntKind.wrap IntKind.u64 (↑(BitVec.toNat (BitVec.ofInt 64 (IntKind.wrap IntKind.u64 (n * 256)) ||| BitVec.ofInt 64 (IntKind.wrap IntKind.u64 (D.getI (nthD l (Int.toNat i)))))) : Int))))))) : T ((Int × Int) ⊕ LOut)) (LK K N)
  generalize (decide (0 ≤ i)) = z0
  generalize (decide (Int.toNat i < List.length l)) = z1
  generalize (decide (i < c)) = z2
  generalize (okE (Ek.int IntKind.u8) (nthD l (Int.toNat i))) = z3
  cases z2 with
  | true =>
   cases z0 with
   | true =>
    cases z1 with
    | true =>
     cases z3 with
     | true =>
      exact hN _ _ _ (by kernel_rfl) (by kernel_rfl)
     | false =>
      rfl
    | false =>
     rfl
   | false =>
    rfl
  | false =>
   rfl
theorem sn_enter (l ds : List D) (f c : Int) (b : Bool) (i n : Int) (fr : Frame') (hl : Nat.beq fr.length 24 = true) (g5 : fr.getD 5 .undef = .dat (.int IntKind.u64 n)) (g11 : fr.getD 11 .undef = .dat (.slc Sh.one l)) (g12 : fr.getD 12 .undef = .dat (.int .i64 c)) (g13 : fr.getD 13 .undef = .dat (.int .i64 i)) : cleanF (liveAt Try.f29 0) 0 fr = sn_fr l ds f c b (i, n) := by
  have e : liveAt Try.f29 0 = [12, 11, 13, 5] := by kernel_rfl
  rw [clean_mk (Nat.eq_of_beq_eq_true hl), e]
  show mkF 24 [(12, fr.getD 12 .undef), (11, fr.getD 11 .undef), (13, fr.getD 13 .undef), (5, fr.getD 5 .undef)] = _
  rw [g12, g11, g13, g5]
  kernel_rfl
def qn_fr (l _ds : List D) (_a _e : Int) : (Int × Int) → Frame' := fun ⟨i, n⟩ => mkF 27 [(5, .dat (.slc .one l)), (6, .dat (.int .u64 n)), (7, .dat (.int .i64 i))]
def qn_st (_l ds : List D) (a e : Int) : (Int × Int) → Store := fun ⟨_, _⟩ => [rcB ds a e]
def qn_step (l ds : List D) (a e : Int) : (Int × Int) → T ((Int × Int) ⊕ LOut) := fun ⟨i, n⟩ =>
  .chk (!decide (i < (↑(List.length l) : Int)) || decide (0 ≤ i) && (decide (Int.toNat i < List.length l) && okE (Ek.int IntKind.u8) (nthD l (Int.toNat i)))) (
   .br (!decide (i < (↑(List.length l) : Int))) (.leaf (.inr ((some 0), mkF 27 [(6, .dat (.int IntKind.u64 n))], [{ sh := s52, dyn := false, frz := false, v := .dat (.agg [D.slc Sh.one ds, D.int .i64 a, D.int .i64 e]) }]))) (.leaf (.inl ((IntKind.wrap IntKind.i64 (i + 1)), (IntKind.wrap IntKind.u64 (IntKind.wrap IntKind.u64 (n * 256) + IntKind.wrap IntKind.u64 (D.getI (nthD l (Int.toNat i)))))))))
theorem qn_round (lp : Loops) (l ds : List D) (a e : Int) (i n : Int) (K : Kt) : oneRound (envOf tab SpF4 [] lp []) Try.f31 0 (1) (mkF 27 [(5, .dat (.slc .one l)), (6, .dat (.int .u64 n)), (7, .dat (.int .i64 i))]) ([rcB ds a e]) K =
  (bif decide (i < (↑(List.length l) : Int)) then
   (bif decide (0 ≤ i) then
    (bif decide (Int.toNat i < List.length l) then
     (bif okE (Ek.int IntKind.u8) (nthD l (Int.toNat i)) then K (Exit.normal) (mkF 27 [(5, .dat (.slc Sh.one l)), (6, .dat (.int IntKind.u64 (IntKind.wrap IntKind.u64 (IntKind.wrap IntKind.u64 (n * 256) + IntKind.wrap IntKind.u64 (D.getI (nthD l (Int.toNat i))))))), (7, .dat (.int .i64 (IntKind.wrap IntKind.i64 (i + 1)))), (16, .dat (.int .i64 i)), (17, .dat (.int .i64 (IntKind.wrap IntKind.i64 (i + 1))))]) ([{ sh := s52, dyn := false, frz := false, v := .dat (.agg [D.slc Sh.one ds, D.int .i64 a, D.int .i64 e]) }]) else none) else none) else none) else K (Exit.exit 0) (mkF 27 [(6, .dat (.int IntKind.u64 n))]) ([{ sh := s52, dyn := false, frz := false, v := .dat (.agg [D.slc Sh.one ds, D.int .i64 a, D.int .i64 e]) }])) := by kernel_rfl
theorem qn_hr (lp : Loops) (l ds : List D) (a e : Int) : ∀ (sA : (Int × Int)) (K : Kt) (N : (Int × Int) → Option Res), (∀ sB fr' σ', cleanF (liveAt Try.f31 0) 0 fr' = qn_fr l ds a e sB → trim (1) (qn_fr l ds a e sB) σ' = qn_st l ds a e sB → K .normal fr' σ' = N sB) →
    oneRound (envOf tab SpF4 [] lp []) Try.f31 0 (1) (qn_fr l ds a e sA) (qn_st l ds a e sA) K = (qn_step l ds a e sA).k (LK K N) := by
  intro sA K N hN
  obtain ⟨i, n⟩ := sA
  refine (qn_round lp l ds a e i n K).trans ?_
  show _ = T.k ((
  .chk (!decide (i < (↑(List.length l) : Int)) || decide (0 ≤ i) && (decide (Int.toNat i < List.length l) && okE (Ek.int IntKind.u8) (nthD l (Int.toNat i)))) (
   .br (!decide (i < (↑(List.length l) : Int))) (.leaf (.inr ((some 0), mkF 27 [(6, .dat (.int IntKind.u64 n))], [{ sh := s52, dyn := false, frz := false, v := .dat (.agg [D.slc Sh.one ds, D.int .i64 a, D.int .i64 e]) }]))) (.leaf (.inl ((IntKind.wrap IntKind.i64 (i + 1)), (IntKind.wrap IntKind.u64 (IntKind.wrap IntKind.u64 (n * 256) + IntKind.wrap IntKind.u64 (D.getI (nthD l (Int.toNat i)))))))))) : T ((Int × Int) ⊕ LOut)) (LK K N)
  generalize (decide (i < (↑(List.length l) : Int))) = z0
  generalize (decide (0 ≤ i)) = z1
  generalize (decide (Int.toNat i < List.length l)) = z2
  generalize (okE (Ek.int IntKind.u8) (nthD l (Int.toNat i))) = z3
  cases z0 with
  | true =>
   cases z1 with
   | true =>
    cases z2 with
    | true =>
     cases z3 with
     | true =>
      exact hN _ _ _ (by kernel_rfl) (by kernel_rfl)
     | false =>
      rfl
    | false =>
     rfl
   | false =>
    rfl
  | false =>
   rfl
theorem qn_enter (l ds : List D) (a e : Int) (i n : Int) (fr : Frame') (hl : Nat.beq fr.length 27 = true) (g5 : fr.getD 5 .undef = .dat (.slc Sh.one l)) (g6 : fr.getD 6 .undef = .dat (.int IntKind.u64 n)) (g7 : fr.getD 7 .undef = .dat (.int .i64 i)) : cleanF (liveAt Try.f31 0) 0 fr = qn_fr l ds a e (i, n) := by
  have e : liveAt Try.f31 0 = [5, 7, 6] := by kernel_rfl
  rw [clean_mk (Nat.eq_of_beq_eq_true hl), e]
  show mkF 27 [(5, fr.getD 5 .undef), (7, fr.getD 7 .undef), (6, fr.getD 6 .undef)] = _
  rw [g5, g7, g6]
  kernel_rfl
end Go.Proofs.Ytdmmobjegfhneaa
