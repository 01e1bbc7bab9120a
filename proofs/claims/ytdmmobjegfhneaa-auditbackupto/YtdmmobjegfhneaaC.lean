/- Seat 20: which lists are logs; whether two are the same. -/
import Derived.Test.YtdmmobjegfhneaaB
namespace Go.Proofs.Ytdmmobjegfhneaa
open Go.AX
set_option maxRecDepth 100000
abbrev SpC : Specs := [(9, C_may), (10, C_rmay), (20, C_beh), (26, C_ord)]
theorem SpC_ok : SpecsOk Try.prog SpC := .cons cmay_ok (.cons crmay_ok (.cons cbeh_ok (.cons cord_ok (.nil _))))
def ri_fr (l l2 : List D) (n : Int) : Int → Frame' := fun i => mkF 30 [(0, .dat (.slc s25 l)), (5, .dat (.slc s25 l2)), (6, .dat (.int .i64 n)), (7, .dat (.int .i64 i))]
def ri_st (_l _l2 : List D) (_n : Int) : Int → Store := fun _ => []
def ri_step (l l2 : List D) (n : Int) : Int → T (Int ⊕ LOut) := fun i =>
  .chk (!decide (i < n) || decide (0 ≤ i) && (decide (Int.toNat i < List.length l2) && (okE (k25) (nthD l2 (Int.toNat i)) && (!may_v0 (D.getI (nthD (D.getL (nthD l2 (Int.toNat i))) 0)) (D.getI (nthD (D.getL (nthD l2 (Int.toNat i))) 1)) (D.getI (nthD (D.getL (nthD l2 (Int.toNat i))) 2)) (D.getI (nthD (D.getL (nthD l2 (Int.toNat i))) 3)) (D.getI (nthD (D.getL (nthD l2 (Int.toNat i))) 4)) (D.getI (nthD (D.getL (nthD l2 (Int.toNat i))) 5)) (D.getI (nthD (D.getL (nthD l2 (Int.toNat i))) 6)) (D.getI (nthD (D.getL (nthD l2 (Int.toNat i))) 7)) (D.getI (nthD (D.getL (nthD l2 (Int.toNat i))) 8)) (D.getI (nthD (D.getL (nthD l2 (Int.toNat i))) 9)) || (!decide (0 < i) || decide (0 ≤ IntKind.wrap IntKind.i64 (i - 1)) && (decide (Int.toNat (IntKind.wrap IntKind.i64 (i - 1)) < List.length l) && (okE (k25) (nthD l (Int.toNat (IntKind.wrap IntKind.i64 (i - 1)))) && ord_pre (D.getI (nthD (D.getL (nthD l (Int.toNat (IntKind.wrap IntKind.i64 (i - 1))))) 1)) (D.getI (nthD (D.getL (nthD l2 (Int.toNat i))) 1))))))))) (
   .br (!decide (i < n)) (.leaf (.inr ((some 0), mkF 30 [], []))) (
    .br (decide (i < n) && (!may_v0 (D.getI (nthD (D.getL (nthD l2 (Int.toNat i))) 0)) (D.getI (nthD (D.getL (nthD l2 (Int.toNat i))) 1)) (D.getI (nthD (D.getL (nthD l2 (Int.toNat i))) 2)) (D.getI (nthD (D.getL (nthD l2 (Int.toNat i))) 3)) (D.getI (nthD (D.getL (nthD l2 (Int.toNat i))) 4)) (D.getI (nthD (D.getL (nthD l2 (Int.toNat i))) 5)) (D.getI (nthD (D.getL (nthD l2 (Int.toNat i))) 6)) (D.getI (nthD (D.getL (nthD l2 (Int.toNat i))) 7)) (D.getI (nthD (D.getL (nthD l2 (Int.toNat i))) 8)) (D.getI (nthD (D.getL (nthD l2 (Int.toNat i))) 9)) || decide (0 < i) && decide (0 ≤ or_v0 (cmpu_v0 (D.getI (nthD (D.getL (nthD l (Int.toNat (IntKind.wrap IntKind.i64 (i - 1))))) 0)) (D.getI (nthD (D.getL (nthD l2 (Int.toNat i))) 0))) (cmpi_v0 (D.getI (nthD (D.getL (nthD l (Int.toNat (IntKind.wrap IntKind.i64 (i - 1))))) 1)) (D.getI (nthD (D.getL (nthD l2 (Int.toNat i))) 1)))))) (.leaf (.inr (none, mkF 30 [(2, .dat (.bool false))], [{ sh := s25, dyn := false, frz := false, v := .dat (.agg [D.int IntKind.u64 (D.getI (nthD (D.getL (nthD l2 (Int.toNat i))) 0)), D.int .i64 (D.getI (nthD (D.getL (nthD l2 (Int.toNat i))) 1)), D.int .i64 (D.getI (nthD (D.getL (nthD l2 (Int.toNat i))) 2)), D.int .i64 (D.getI (nthD (D.getL (nthD l2 (Int.toNat i))) 3)), D.int .i64 (D.getI (nthD (D.getL (nthD l2 (Int.toNat i))) 4)), D.int .i64 (D.getI (nthD (D.getL (nthD l2 (Int.toNat i))) 5)), D.int .i64 (D.getI (nthD (D.getL (nthD l2 (Int.toNat i))) 6)), D.int IntKind.u64 (D.getI (nthD (D.getL (nthD l2 (Int.toNat i))) 7)), D.int IntKind.u64 (D.getI (nthD (D.getL (nthD l2 (Int.toNat i))) 8)), D.int .i64 (D.getI (nthD (D.getL (nthD l2 (Int.toNat i))) 9))]) }]))) (.leaf (.inl (IntKind.wrap IntKind.i64 (i + 1))))))
theorem ri_round (lp : Loops) (l l2 : List D) (n : Int) (i : Int) (K : Kt) : oneRound (envOf tab SpC [] lp []) Try.f11 0 (0) (mkF 30 [(0, .dat (.slc s25 l)), (5, .dat (.slc s25 l2)), (6, .dat (.int .i64 n)), (7, .dat (.int .i64 i))]) ([]) K =
  (bif decide (i < n) then
   (bif decide (0 ≤ i) then
    (bif decide (Int.toNat i < List.length l2) then
     (bif okE (k25) (nthD l2 (Int.toNat i)) then
      (bif !may_v0 (D.getI (nthD (D.getL (nthD l2 (Int.toNat i))) 0)) (D.getI (nthD (D.getL (nthD l2 (Int.toNat i))) 1)) (D.getI (nthD (D.getL (nthD l2 (Int.toNat i))) 2)) (D.getI (nthD (D.getL (nthD l2 (Int.toNat i))) 3)) (D.getI (nthD (D.getL (nthD l2 (Int.toNat i))) 4)) (D.getI (nthD (D.getL (nthD l2 (Int.toNat i))) 5)) (D.getI (nthD (D.getL (nthD l2 (Int.toNat i))) 6)) (D.getI (nthD (D.getL (nthD l2 (Int.toNat i))) 7)) (D.getI (nthD (D.getL (nthD l2 (Int.toNat i))) 8)) (D.getI (nthD (D.getL (nthD l2 (Int.toNat i))) 9)) then K (Exit.ret) (mkF 30 [(2, .dat (.bool false))]) ([{ sh := s25, dyn := false, frz := false, v := .dat (.agg [D.int IntKind.u64 (D.getI (nthD (D.getL (nthD l2 (Int.toNat i))) 0)), D.int .i64 (D.getI (nthD (D.getL (nthD l2 (Int.toNat i))) 1)), D.int .i64 (D.getI (nthD (D.getL (nthD l2 (Int.toNat i))) 2)), D.int .i64 (D.getI (nthD (D.getL (nthD l2 (Int.toNat i))) 3)), D.int .i64 (D.getI (nthD (D.getL (nthD l2 (Int.toNat i))) 4)), D.int .i64 (D.getI (nthD (D.getL (nthD l2 (Int.toNat i))) 5)), D.int .i64 (D.getI (nthD (D.getL (nthD l2 (Int.toNat i))) 6)), D.int IntKind.u64 (D.getI (nthD (D.getL (nthD l2 (Int.toNat i))) 7)), D.int IntKind.u64 (D.getI (nthD (D.getL (nthD l2 (Int.toNat i))) 8)), D.int .i64 (D.getI (nthD (D.getL (nthD l2 (Int.toNat i))) 9))]) }]) else
       (bif decide (i > 0) then
        (bif decide (0 ≤ IntKind.wrap IntKind.i64 (i - 1)) then
         (bif decide (Int.toNat (IntKind.wrap IntKind.i64 (i - 1)) < List.length l) then
          (bif okE (k25) (nthD l (Int.toNat (IntKind.wrap IntKind.i64 (i - 1)))) then
           (bif ord_pre (D.getI (nthD (D.getL (nthD l (Int.toNat (IntKind.wrap IntKind.i64 (i - 1))))) 1)) (D.getI (nthD (D.getL (nthD l2 (Int.toNat i))) 1)) then
            (bif decide (or_v0 (cmpu_v0 (D.getI (nthD (D.getL (nthD l (Int.toNat (IntKind.wrap IntKind.i64 (i - 1))))) 0)) (D.getI (nthD (D.getL (nthD l2 (Int.toNat i))) 0))) (cmpi_v0 (D.getI (nthD (D.getL (nthD l (Int.toNat (IntKind.wrap IntKind.i64 (i - 1))))) 1)) (D.getI (nthD (D.getL (nthD l2 (Int.toNat i))) 1))) ≥ 0) then K (Exit.ret) (mkF 30 [(2, .dat (.bool false))]) ([{ sh := s25, dyn := false, frz := false, v := .dat (.agg [D.int IntKind.u64 (D.getI (nthD (D.getL (nthD l2 (Int.toNat i))) 0)), D.int .i64 (D.getI (nthD (D.getL (nthD l2 (Int.toNat i))) 1)), D.int .i64 (D.getI (nthD (D.getL (nthD l2 (Int.toNat i))) 2)), D.int .i64 (D.getI (nthD (D.getL (nthD l2 (Int.toNat i))) 3)), D.int .i64 (D.getI (nthD (D.getL (nthD l2 (Int.toNat i))) 4)), D.int .i64 (D.getI (nthD (D.getL (nthD l2 (Int.toNat i))) 5)), D.int .i64 (D.getI (nthD (D.getL (nthD l2 (Int.toNat i))) 6)), D.int IntKind.u64 (D.getI (nthD (D.getL (nthD l2 (Int.toNat i))) 7)), D.int IntKind.u64 (D.getI (nthD (D.getL (nthD l2 (Int.toNat i))) 8)), D.int .i64 (D.getI (nthD (D.getL (nthD l2 (Int.toNat i))) 9))]) }]) else K (Exit.normal) (mkF 30 [(0, .dat (.slc (s25) l)), (5, .dat (.slc (s25) l2)), (6, .dat (.int .i64 n)), (7, .dat (.int .i64 (IntKind.wrap IntKind.i64 (i + 1)))), (8, .dat (.bool (decide (i < n)))), (29, .dat (.int .i64 (IntKind.wrap IntKind.i64 (i + 1))))]) ([{ sh := s25, dyn := false, frz := false, v := .dat (.agg [D.int IntKind.u64 (D.getI (nthD (D.getL (nthD l2 (Int.toNat i))) 0)), D.int .i64 (D.getI (nthD (D.getL (nthD l2 (Int.toNat i))) 1)), D.int .i64 (D.getI (nthD (D.getL (nthD l2 (Int.toNat i))) 2)), D.int .i64 (D.getI (nthD (D.getL (nthD l2 (Int.toNat i))) 3)), D.int .i64 (D.getI (nthD (D.getL (nthD l2 (Int.toNat i))) 4)), D.int .i64 (D.getI (nthD (D.getL (nthD l2 (Int.toNat i))) 5)), D.int .i64 (D.getI (nthD (D.getL (nthD l2 (Int.toNat i))) 6)), D.int IntKind.u64 (D.getI (nthD (D.getL (nthD l2 (Int.toNat i))) 7)), D.int IntKind.u64 (D.getI (nthD (D.getL (nthD l2 (Int.toNat i))) 8)), D.int .i64 (D.getI (nthD (D.getL (nthD l2 (Int.toNat i))) 9))]) }])) else none) else none) else none) else none) else K (Exit.normal) (mkF 30 [(0, .dat (.slc (s25) l)), (5, .dat (.slc (s25) l2)), (6, .dat (.int .i64 n)), (7, .dat (.int .i64 (IntKind.wrap IntKind.i64 (i + 1)))), (8, .dat (.bool (decide (i < n)))), (29, .dat (.int .i64 (IntKind.wrap IntKind.i64 (i + 1))))]) ([{ sh := s25, dyn := false, frz := false, v := .dat (.agg [D.int IntKind.u64 (D.getI (nthD (D.getL (nthD l2 (Int.toNat i))) 0)), D.int .i64 (D.getI (nthD (D.getL (nthD l2 (Int.toNat i))) 1)), D.int .i64 (D.getI (nthD (D.getL (nthD l2 (Int.toNat i))) 2)), D.int .i64 (D.getI (nthD (D.getL (nthD l2 (Int.toNat i))) 3)), D.int .i64 (D.getI (nthD (D.getL (nthD l2 (Int.toNat i))) 4)), D.int .i64 (D.getI (nthD (D.getL (nthD l2 (Int.toNat i))) 5)), D.int .i64 (D.getI (nthD (D.getL (nthD l2 (Int.toNat i))) 6)), D.int IntKind.u64 (D.getI (nthD (D.getL (nthD l2 (Int.toNat i))) 7)), D.int IntKind.u64 (D.getI (nthD (D.getL (nthD l2 (Int.toNat i))) 8)), D.int .i64 (D.getI (nthD (D.getL (nthD l2 (Int.toNat i))) 9))]) }]))) else none) else none) else none) else K (Exit.exit 0) (mkF 30 []) ([])) := by kernel_rfl
theorem ri_hr (lp : Loops) (l l2 : List D) (n : Int) : ∀ (sA : Int) (K : Kt) (N : Int → Option Res), (∀ sB fr' σ', cleanF (liveAt Try.f11 0) 0 fr' = ri_fr l l2 n sB → trim (0) (ri_fr l l2 n sB) σ' = ri_st l l2 n sB → K .normal fr' σ' = N sB) →
    oneRound (envOf tab SpC [] lp []) Try.f11 0 (0) (ri_fr l l2 n sA) (ri_st l l2 n sA) K = (ri_step l l2 n sA).k (LK K N) := by
  intro i K N hN
  refine (ri_round lp l l2 n i K).trans ?_
  show _ = T.k ((
  .chk (!decide (i < n) || decide (0 ≤ i) && (decide (Int.toNat i < List.length l2) && (okE (k25) (nthD l2 (Int.toNat i)) && (!may_v0 (D.getI (nthD (D.getL (nthD l2 (Int.toNat i))) 0)) (D.getI (nthD (D.getL (nthD l2 (Int.toNat i))) 1)) (D.getI (nthD (D.getL (nthD l2 (Int.toNat i))) 2)) (D.getI (nthD (D.getL (nthD l2 (Int.toNat i))) 3)) (D.getI (nthD (D.getL (nthD l2 (Int.toNat i))) 4)) (D.getI (nthD (D.getL (nthD l2 (Int.toNat i))) 5)) (D.getI (nthD (D.getL (nthD l2 (Int.toNat i))) 6)) (D.getI (nthD (D.getL (nthD l2 (Int.toNat i))) 7)) (D.getI (nthD (D.getL (nthD l2 (Int.toNat i))) 8)) (D.getI (nthD (D.getL (nthD l2 (Int.toNat i))) 9)) || (!decide (0 < i) || decide (0 ≤ IntKind.wrap IntKind.i64 (i - 1)) && (decide (Int.toNat (IntKind.wrap IntKind.i64 (i - 1)) < List.length l) && (okE (k25) (nthD l (Int.toNat (IntKind.wrap IntKind.i64 (i - 1)))) && ord_pre (D.getI (nthD (D.getL (nthD l (Int.toNat (IntKind.wrap IntKind.i64 (i - 1))))) 1)) (D.getI (nthD (D.getL (nthD l2 (Int.toNat i))) 1))))))))) (
   .br (!decide (i < n)) (.leaf (.inr ((some 0), mkF 30 [], []))) (
    .br (decide (i < n) && (!may_v0 (D.getI (nthD (D.getL (nthD l2 (Int.toNat i))) 0)) (D.getI (nthD (D.getL (nthD l2 (Int.toNat i))) 1)) (D.getI (nthD (D.getL (nthD l2 (Int.toNat i))) 2)) (D.getI (nthD (D.getL (nthD l2 (Int.toNat i))) 3)) (D.getI (nthD (D.getL (nthD l2 (Int.toNat i))) 4)) (D.getI (nthD (D.getL (nthD l2 (Int.toNat i))) 5)) (D.getI (nthD (D.getL (nthD l2 (Int.toNat i))) 6)) (D.getI (nthD (D.getL (nthD l2 (Int.toNat i))) 7)) (D.getI (nthD (D.getL (nthD l2 (Int.toNat i))) 8)) (D.getI (nthD (D.getL (nthD l2 (Int.toNat i))) 9)) || decide (0 < i) && decide (0 ≤ or_v0 (cmpu_v0 (D.getI (nthD (D.getL (nthD l (Int.toNat (IntKind.wrap IntKind.i64 (i - 1))))) 0)) (D.getI (nthD (D.getL (nthD l2 (Int.toNat i))) 0))) (cmpi_v0 (D.getI (nthD (D.getL (nthD l (Int.toNat (IntKind.wrap IntKind.i64 (i - 1))))) 1)) (D.getI (nthD (D.getL (nthD l2 (Int.toNat i))) 1)))))) (.leaf (.inr (none, mkF 30 [(2, .dat (.bool false))], [{ sh := s25, dyn := false, frz := false, v := .dat (.agg [D.int IntKind.u64 (D.getI (nthD (D.getL (nthD l2 (Int.toNat i))) 0)), D.int .i64 (D.getI (nthD (D.getL (nthD l2 (Int.toNat i))) 1)), D.int .i64 (D.getI (nthD (D.getL (nthD l2 (Int.toNat i))) 2)), D.int .i64 (D.getI (nthD (D.getL (nthD l2 (Int.toNat i))) 3)), D.int .i64 (D.getI (nthD (D.getL (nthD l2 (Int.toNat i))) 4)), D.int .i64 (D.getI (nthD (D.getL (nthD l2 (Int.toNat i))) 5)), D.int .i64 (D.getI (nthD (D.getL (nthD l2 (Int.toNat i))) 6)), D.int IntKind.u64 (D.getI (nthD (D.getL (nthD l2 (Int.toNat i))) 7)), D.int IntKind.u64 (D.getI (nthD (D.getL (nthD l2 (Int.toNat i))) 8)), D.int .i64 (D.getI (nthD (D.getL (nthD l2 (Int.toNat i))) 9))]) }]))) (.leaf (.inl (IntKind.wrap IntKind.i64 (i + 1))))))) : T (Int ⊕ LOut)) (LK K N)
  generalize (decide (0 ≤ or_v0 (cmpu_v0 (D.getI (nthD (D.getL (nthD l (Int.toNat (IntKind.wrap IntKind.i64 (i - 1))))) 0)) (D.getI (nthD (D.getL (nthD l2 (Int.toNat i))) 0))) (cmpi_v0 (D.getI (nthD (D.getL (nthD l (Int.toNat (IntKind.wrap IntKind.i64 (i - 1))))) 1)) (D.getI (nthD (D.getL (nthD l2 (Int.toNat i))) 1))))) = z0
  generalize (may_v0 (D.getI (nthD (D.getL (nthD l2 (Int.toNat i))) 0)) (D.getI (nthD (D.getL (nthD l2 (Int.toNat i))) 1)) (D.getI (nthD (D.getL (nthD l2 (Int.toNat i))) 2)) (D.getI (nthD (D.getL (nthD l2 (Int.toNat i))) 3)) (D.getI (nthD (D.getL (nthD l2 (Int.toNat i))) 4)) (D.getI (nthD (D.getL (nthD l2 (Int.toNat i))) 5)) (D.getI (nthD (D.getL (nthD l2 (Int.toNat i))) 6)) (D.getI (nthD (D.getL (nthD l2 (Int.toNat i))) 7)) (D.getI (nthD (D.getL (nthD l2 (Int.toNat i))) 8)) (D.getI (nthD (D.getL (nthD l2 (Int.toNat i))) 9))) = z1
  generalize (okE (k25) (nthD l (Int.toNat (IntKind.wrap IntKind.i64 (i - 1))))) = z2
  generalize (okE (k25) (nthD l2 (Int.toNat i))) = z3
  generalize (decide (0 ≤ IntKind.wrap IntKind.i64 (i - 1))) = z4
  generalize (decide (Int.toNat (IntKind.wrap IntKind.i64 (i - 1)) < List.length l)) = z5
  generalize (ord_pre (D.getI (nthD (D.getL (nthD l (Int.toNat (IntKind.wrap IntKind.i64 (i - 1))))) 1)) (D.getI (nthD (D.getL (nthD l2 (Int.toNat i))) 1))) = z6
  generalize (decide (0 < i)) = z7
  generalize (decide (0 ≤ i)) = z8
  generalize (decide (Int.toNat i < List.length l2)) = z9
  generalize (decide (i < n)) = z10
  cases z10 with
  | true =>
   cases z8 with
   | true =>
    cases z9 with
    | true =>
     cases z3 with
     | true =>
      cases z1 with
      | true =>
       cases z7 with
       | true =>
        cases z4 with
        | true =>
         cases z5 with
         | true =>
          cases z2 with
          | true =>
           cases z6 with
           | true =>
            cases z0 with
            | true =>
             rfl
            | false =>
             exact hN _ _ _ (by kernel_rfl) (by kernel_rfl)
           | false =>
            rfl
          | false =>
           rfl
         | false =>
          rfl
        | false =>
         rfl
       | false =>
        exact hN _ _ _ (by kernel_rfl) (by kernel_rfl)
      | false =>
       rfl
     | false =>
      rfl
    | false =>
     rfl
   | false =>
    rfl
  | false =>
   rfl
theorem ri_enter (l l2 : List D) (n : Int) (i : Int) (fr : Frame') (hl : Nat.beq fr.length 30 = true) (g0 : fr.getD 0 .undef = .dat (.slc (s25) l)) (g5 : fr.getD 5 .undef = .dat (.slc (s25) l2)) (g6 : fr.getD 6 .undef = .dat (.int .i64 n)) (g7 : fr.getD 7 .undef = .dat (.int .i64 i)) : cleanF (liveAt Try.f11 0) 0 fr = ri_fr l l2 n i := by
  have e : liveAt Try.f11 0 = [6, 5, 0, 7] := by kernel_rfl
  rw [clean_mk (Nat.eq_of_beq_eq_true hl), e]
  show mkF 30 [(6, fr.getD 6 .undef), (5, fr.getD 5 .undef), (0, fr.getD 0 .undef), (7, fr.getD 7 .undef)] = _
  rw [g6, g5, g0, g7]
  kernel_rfl
def rr_fr (l : List D) : Int → Frame' := fun i => mkF 33 [(0, .dat (.slc s25 l)), (3, .dat (.int .i64 i))]
def rr_st (_l : List D) : Int → Store := fun _ => []
def rr_step (l : List D) : Int → T (Int ⊕ LOut) := fun i =>
  .chk (!decide (i < (↑(List.length l) : Int)) || decide (0 ≤ i) && (decide (Int.toNat i < List.length l) && (okE (k25) (nthD l (Int.toNat i)) && (rmay_pre (D.getI (nthD (D.getL (nthD l (Int.toNat i))) 0)) (D.getI (nthD (D.getL (nthD l (Int.toNat i))) 1)) (D.getI (nthD (D.getL (nthD l (Int.toNat i))) 2)) (D.getI (nthD (D.getL (nthD l (Int.toNat i))) 3)) (D.getI (nthD (D.getL (nthD l (Int.toNat i))) 4)) (D.getI (nthD (D.getL (nthD l (Int.toNat i))) 7)) (D.getI (nthD (D.getL (nthD l (Int.toNat i))) 8)) && (!rmay_v0 (D.getI (nthD (D.getL (nthD l (Int.toNat i))) 0)) (D.getI (nthD (D.getL (nthD l (Int.toNat i))) 1)) (D.getI (nthD (D.getL (nthD l (Int.toNat i))) 2)) (D.getI (nthD (D.getL (nthD l (Int.toNat i))) 3)) (D.getI (nthD (D.getL (nthD l (Int.toNat i))) 4)) (D.getI (nthD (D.getL (nthD l (Int.toNat i))) 5)) (D.getI (nthD (D.getL (nthD l (Int.toNat i))) 6)) (D.getI (nthD (D.getL (nthD l (Int.toNat i))) 7)) (D.getI (nthD (D.getL (nthD l (Int.toNat i))) 8)) (D.getI (nthD (D.getL (nthD l (Int.toNat i))) 9)) || (!decide (0 < i) || decide (0 ≤ IntKind.wrap IntKind.i64 (i - 1)) && (decide (Int.toNat (IntKind.wrap IntKind.i64 (i - 1)) < List.length l) && okE (k25) (nthD l (Int.toNat (IntKind.wrap IntKind.i64 (i - 1))))))))))) (
   .br (!decide (i < (↑(List.length l) : Int))) (.leaf (.inr ((some 0), mkF 33 [], []))) (
    .br (decide (i < (↑(List.length l) : Int)) && (!rmay_v0 (D.getI (nthD (D.getL (nthD l (Int.toNat i))) 0)) (D.getI (nthD (D.getL (nthD l (Int.toNat i))) 1)) (D.getI (nthD (D.getL (nthD l (Int.toNat i))) 2)) (D.getI (nthD (D.getL (nthD l (Int.toNat i))) 3)) (D.getI (nthD (D.getL (nthD l (Int.toNat i))) 4)) (D.getI (nthD (D.getL (nthD l (Int.toNat i))) 5)) (D.getI (nthD (D.getL (nthD l (Int.toNat i))) 6)) (D.getI (nthD (D.getL (nthD l (Int.toNat i))) 7)) (D.getI (nthD (D.getL (nthD l (Int.toNat i))) 8)) (D.getI (nthD (D.getL (nthD l (Int.toNat i))) 9)) || decide (0 < i) && !beh_v0 (D.getI (nthD (D.getL (nthD l (Int.toNat i))) 0)) (D.getI (nthD (D.getL (nthD l (Int.toNat i))) 1)) (D.getI (nthD (D.getL (nthD l (Int.toNat (IntKind.wrap IntKind.i64 (i - 1))))) 0)) (D.getI (nthD (D.getL (nthD l (Int.toNat (IntKind.wrap IntKind.i64 (i - 1))))) 1)))) (.leaf (.inr (none, mkF 33 [(2, .dat (.bool false))], []))) (.leaf (.inl (IntKind.wrap IntKind.i64 (i + 1))))))
theorem rr_round (lp : Loops) (l : List D) (i : Int) (K : Kt) : oneRound (envOf tab SpC [] lp []) Try.f12 0 (0) (mkF 33 [(0, .dat (.slc s25 l)), (3, .dat (.int .i64 i))]) ([]) K =
  (bif decide (i < (↑(List.length l) : Int)) then
   (bif decide (0 ≤ i) then
    (bif decide (Int.toNat i < List.length l) then
     (bif okE (k25) (nthD l (Int.toNat i)) then
      (bif rmay_pre (D.getI (nthD (D.getL (nthD l (Int.toNat i))) 0)) (D.getI (nthD (D.getL (nthD l (Int.toNat i))) 1)) (D.getI (nthD (D.getL (nthD l (Int.toNat i))) 2)) (D.getI (nthD (D.getL (nthD l (Int.toNat i))) 3)) (D.getI (nthD (D.getL (nthD l (Int.toNat i))) 4)) (D.getI (nthD (D.getL (nthD l (Int.toNat i))) 7)) (D.getI (nthD (D.getL (nthD l (Int.toNat i))) 8)) then
       (bif !rmay_v0 (D.getI (nthD (D.getL (nthD l (Int.toNat i))) 0)) (D.getI (nthD (D.getL (nthD l (Int.toNat i))) 1)) (D.getI (nthD (D.getL (nthD l (Int.toNat i))) 2)) (D.getI (nthD (D.getL (nthD l (Int.toNat i))) 3)) (D.getI (nthD (D.getL (nthD l (Int.toNat i))) 4)) (D.getI (nthD (D.getL (nthD l (Int.toNat i))) 5)) (D.getI (nthD (D.getL (nthD l (Int.toNat i))) 6)) (D.getI (nthD (D.getL (nthD l (Int.toNat i))) 7)) (D.getI (nthD (D.getL (nthD l (Int.toNat i))) 8)) (D.getI (nthD (D.getL (nthD l (Int.toNat i))) 9)) then K (Exit.ret) (mkF 33 [(2, .dat (.bool false))]) ([]) else
        (bif decide (i > 0) then
         (bif decide (0 ≤ i) then
          (bif decide (Int.toNat i < List.length l) then
           (bif okE (k25) (nthD l (Int.toNat i)) then
            (bif decide (0 ≤ IntKind.wrap IntKind.i64 (i - 1)) then
             (bif decide (Int.toNat (IntKind.wrap IntKind.i64 (i - 1)) < List.length l) then
              (bif okE (k25) (nthD l (Int.toNat (IntKind.wrap IntKind.i64 (i - 1)))) then
               (bif !beh_v0 (D.getI (nthD (D.getL (nthD l (Int.toNat i))) 0)) (D.getI (nthD (D.getL (nthD l (Int.toNat i))) 1)) (D.getI (nthD (D.getL (nthD l (Int.toNat (IntKind.wrap IntKind.i64 (i - 1))))) 0)) (D.getI (nthD (D.getL (nthD l (Int.toNat (IntKind.wrap IntKind.i64 (i - 1))))) 1)) then K (Exit.ret) (mkF 33 [(2, .dat (.bool false))]) ([]) else K (Exit.normal) (mkF 33 [(0, .dat (.slc (s25) l)), (3, .dat (.int .i64 (IntKind.wrap IntKind.i64 (i + 1)))), (8, .dat (.int .i64 i)), (9, .dat (.int .i64 (IntKind.wrap IntKind.i64 (i + 1))))]) ([])) else none) else none) else none) else none) else none) else none) else K (Exit.normal) (mkF 33 [(0, .dat (.slc (s25) l)), (3, .dat (.int .i64 (IntKind.wrap IntKind.i64 (i + 1)))), (8, .dat (.int .i64 i)), (9, .dat (.int .i64 (IntKind.wrap IntKind.i64 (i + 1))))]) ([]))) else none) else none) else none) else none) else K (Exit.exit 0) (mkF 33 []) ([])) := by kernel_rfl
theorem rr_hr (lp : Loops) (l : List D) : ∀ (sA : Int) (K : Kt) (N : Int → Option Res), (∀ sB fr' σ', cleanF (liveAt Try.f12 0) 0 fr' = rr_fr l sB → trim (0) (rr_fr l sB) σ' = rr_st l sB → K .normal fr' σ' = N sB) →
    oneRound (envOf tab SpC [] lp []) Try.f12 0 (0) (rr_fr l sA) (rr_st l sA) K = (rr_step l sA).k (LK K N) := by
  intro i K N hN
  refine (rr_round lp l i K).trans ?_
  show _ = T.k ((
  .chk (!decide (i < (↑(List.length l) : Int)) || decide (0 ≤ i) && (decide (Int.toNat i < List.length l) && (okE (k25) (nthD l (Int.toNat i)) && (rmay_pre (D.getI (nthD (D.getL (nthD l (Int.toNat i))) 0)) (D.getI (nthD (D.getL (nthD l (Int.toNat i))) 1)) (D.getI (nthD (D.getL (nthD l (Int.toNat i))) 2)) (D.getI (nthD (D.getL (nthD l (Int.toNat i))) 3)) (D.getI (nthD (D.getL (nthD l (Int.toNat i))) 4)) (D.getI (nthD (D.getL (nthD l (Int.toNat i))) 7)) (D.getI (nthD (D.getL (nthD l (Int.toNat i))) 8)) && (!rmay_v0 (D.getI (nthD (D.getL (nthD l (Int.toNat i))) 0)) (D.getI (nthD (D.getL (nthD l (Int.toNat i))) 1)) (D.getI (nthD (D.getL (nthD l (Int.toNat i))) 2)) (D.getI (nthD (D.getL (nthD l (Int.toNat i))) 3)) (D.getI (nthD (D.getL (nthD l (Int.toNat i))) 4)) (D.getI (nthD (D.getL (nthD l (Int.toNat i))) 5)) (D.getI (nthD (D.getL (nthD l (Int.toNat i))) 6)) (D.getI (nthD (D.getL (nthD l (Int.toNat i))) 7)) (D.getI (nthD (D.getL (nthD l (Int.toNat i))) 8)) (D.getI (nthD (D.getL (nthD l (Int.toNat i))) 9)) || (!decide (0 < i) || decide (0 ≤ IntKind.wrap IntKind.i64 (i - 1)) && (decide (Int.toNat (IntKind.wrap IntKind.i64 (i - 1)) < List.length l) && okE (k25) (nthD l (Int.toNat (IntKind.wrap IntKind.i64 (i - 1))))))))))) (
   .br (!decide (i < (↑(List.length l) : Int))) (.leaf (.inr ((some 0), mkF 33 [], []))) (
    .br (decide (i < (↑(List.length l) : Int)) && (!rmay_v0 (D.getI (nthD (D.getL (nthD l (Int.toNat i))) 0)) (D.getI (nthD (D.getL (nthD l (Int.toNat i))) 1)) (D.getI (nthD (D.getL (nthD l (Int.toNat i))) 2)) (D.getI (nthD (D.getL (nthD l (Int.toNat i))) 3)) (D.getI (nthD (D.getL (nthD l (Int.toNat i))) 4)) (D.getI (nthD (D.getL (nthD l (Int.toNat i))) 5)) (D.getI (nthD (D.getL (nthD l (Int.toNat i))) 6)) (D.getI (nthD (D.getL (nthD l (Int.toNat i))) 7)) (D.getI (nthD (D.getL (nthD l (Int.toNat i))) 8)) (D.getI (nthD (D.getL (nthD l (Int.toNat i))) 9)) || decide (0 < i) && !beh_v0 (D.getI (nthD (D.getL (nthD l (Int.toNat i))) 0)) (D.getI (nthD (D.getL (nthD l (Int.toNat i))) 1)) (D.getI (nthD (D.getL (nthD l (Int.toNat (IntKind.wrap IntKind.i64 (i - 1))))) 0)) (D.getI (nthD (D.getL (nthD l (Int.toNat (IntKind.wrap IntKind.i64 (i - 1))))) 1)))) (.leaf (.inr (none, mkF 33 [(2, .dat (.bool false))], []))) (.leaf (.inl (IntKind.wrap IntKind.i64 (i + 1))))))) : T (Int ⊕ LOut)) (LK K N)
  generalize (rmay_v0 (D.getI (nthD (D.getL (nthD l (Int.toNat i))) 0)) (D.getI (nthD (D.getL (nthD l (Int.toNat i))) 1)) (D.getI (nthD (D.getL (nthD l (Int.toNat i))) 2)) (D.getI (nthD (D.getL (nthD l (Int.toNat i))) 3)) (D.getI (nthD (D.getL (nthD l (Int.toNat i))) 4)) (D.getI (nthD (D.getL (nthD l (Int.toNat i))) 5)) (D.getI (nthD (D.getL (nthD l (Int.toNat i))) 6)) (D.getI (nthD (D.getL (nthD l (Int.toNat i))) 7)) (D.getI (nthD (D.getL (nthD l (Int.toNat i))) 8)) (D.getI (nthD (D.getL (nthD l (Int.toNat i))) 9))) = z0
  generalize (rmay_pre (D.getI (nthD (D.getL (nthD l (Int.toNat i))) 0)) (D.getI (nthD (D.getL (nthD l (Int.toNat i))) 1)) (D.getI (nthD (D.getL (nthD l (Int.toNat i))) 2)) (D.getI (nthD (D.getL (nthD l (Int.toNat i))) 3)) (D.getI (nthD (D.getL (nthD l (Int.toNat i))) 4)) (D.getI (nthD (D.getL (nthD l (Int.toNat i))) 7)) (D.getI (nthD (D.getL (nthD l (Int.toNat i))) 8))) = z1
  generalize (beh_v0 (D.getI (nthD (D.getL (nthD l (Int.toNat i))) 0)) (D.getI (nthD (D.getL (nthD l (Int.toNat i))) 1)) (D.getI (nthD (D.getL (nthD l (Int.toNat (IntKind.wrap IntKind.i64 (i - 1))))) 0)) (D.getI (nthD (D.getL (nthD l (Int.toNat (IntKind.wrap IntKind.i64 (i - 1))))) 1))) = z2
  generalize (okE (k25) (nthD l (Int.toNat (IntKind.wrap IntKind.i64 (i - 1))))) = z3
  generalize (okE (k25) (nthD l (Int.toNat i))) = z4
  generalize (decide (0 ≤ IntKind.wrap IntKind.i64 (i - 1))) = z5
  generalize (decide (Int.toNat (IntKind.wrap IntKind.i64 (i - 1)) < List.length l)) = z6
  generalize (decide (i < (↑(List.length l) : Int))) = z7
  generalize (decide (0 < i)) = z8
  generalize (decide (0 ≤ i)) = z9
  generalize (decide (Int.toNat i < List.length l)) = z10
  cases z7 with
  | true =>
   cases z9 with
   | true =>
    cases z10 with
    | true =>
     cases z4 with
     | true =>
      cases z1 with
      | true =>
       cases z0 with
       | true =>
        cases z8 with
        | true =>
         cases z5 with
         | true =>
          cases z6 with
          | true =>
           cases z3 with
           | true =>
            cases z2 with
            | true =>
             exact hN _ _ _ (by kernel_rfl) (by kernel_rfl)
            | false =>
             rfl
           | false =>
            rfl
          | false =>
           rfl
         | false =>
          rfl
        | false =>
         exact hN _ _ _ (by kernel_rfl) (by kernel_rfl)
       | false =>
        rfl
      | false =>
       rfl
     | false =>
      rfl
    | false =>
     rfl
   | false =>
    rfl
  | false =>
   rfl
theorem rr_enter (l : List D) (i : Int) (fr : Frame') (hl : Nat.beq fr.length 33 = true) (g0 : fr.getD 0 .undef = .dat (.slc (s25) l)) (g3 : fr.getD 3 .undef = .dat (.int .i64 i)) : cleanF (liveAt Try.f12 0) 0 fr = rr_fr l i := by
  have e : liveAt Try.f12 0 = [0, 3] := by kernel_rfl
  rw [clean_mk (Nat.eq_of_beq_eq_true hl), e]
  show mkF 33 [(0, fr.getD 0 .undef), (3, fr.getD 3 .undef)] = _
  rw [g0, g3]
  kernel_rfl
def sm_fr (a b : List D) : Int → Frame' := fun i => mkF 26 [(0, .dat (.slc s25 a)), (1, .dat (.slc s25 b)), (5, .dat (.int .i64 i))]
def sm_st (_a _b : List D) : Int → Store := fun _ => []
def sm_step (a b : List D) : Int → T (Int ⊕ LOut) := fun i =>
  .chk (!decide (i < (↑(List.length a) : Int)) || decide (0 ≤ i) && (decide (Int.toNat i < List.length a) && (okE (k25) (nthD a (Int.toNat i)) && (decide (Int.toNat i < List.length b) && okE (k25) (nthD b (Int.toNat i)))))) (
   .br (!decide (i < (↑(List.length a) : Int))) (.leaf (.inr ((some 0), mkF 26 [], []))) (
    .br (decide (i < (↑(List.length a) : Int)) && !(D.getI (nthD (D.getL (nthD a (Int.toNat i))) 0) == D.getI (nthD (D.getL (nthD b (Int.toNat i))) 0) && (D.getI (nthD (D.getL (nthD a (Int.toNat i))) 1) == D.getI (nthD (D.getL (nthD b (Int.toNat i))) 1) && (D.getI (nthD (D.getL (nthD a (Int.toNat i))) 2) == D.getI (nthD (D.getL (nthD b (Int.toNat i))) 2) && (D.getI (nthD (D.getL (nthD a (Int.toNat i))) 3) == D.getI (nthD (D.getL (nthD b (Int.toNat i))) 3) && (D.getI (nthD (D.getL (nthD a (Int.toNat i))) 4) == D.getI (nthD (D.getL (nthD b (Int.toNat i))) 4) && (D.getI (nthD (D.getL (nthD a (Int.toNat i))) 5) == D.getI (nthD (D.getL (nthD b (Int.toNat i))) 5) && (D.getI (nthD (D.getL (nthD a (Int.toNat i))) 6) == D.getI (nthD (D.getL (nthD b (Int.toNat i))) 6) && (D.getI (nthD (D.getL (nthD a (Int.toNat i))) 7) == D.getI (nthD (D.getL (nthD b (Int.toNat i))) 7) && (D.getI (nthD (D.getL (nthD a (Int.toNat i))) 8) == D.getI (nthD (D.getL (nthD b (Int.toNat i))) 8) && (D.getI (nthD (D.getL (nthD a (Int.toNat i))) 9) == D.getI (nthD (D.getL (nthD b (Int.toNat i))) 9) && true))))))))))) (.leaf (.inr (none, mkF 26 [(4, .dat (.bool false))], []))) (.leaf (.inl (IntKind.wrap IntKind.i64 (i + 1))))))
theorem sm_round (lp : Loops) (a b : List D) (i : Int) (K : Kt) : oneRound (envOf tab SpC [] lp []) Try.f13 0 (0) (mkF 26 [(0, .dat (.slc s25 a)), (1, .dat (.slc s25 b)), (5, .dat (.int .i64 i))]) ([]) K =
  (bif decide (i < (↑(List.length a) : Int)) then
   (bif decide (0 ≤ i) then
    (bif decide (Int.toNat i < List.length a) then
     (bif okE (k25) (nthD a (Int.toNat i)) then
      (bif decide (0 ≤ i) then
       (bif decide (Int.toNat i < List.length b) then
        (bif okE (k25) (nthD b (Int.toNat i)) then
         (bif true != (D.getI (nthD (D.getL (nthD a (Int.toNat i))) 0) == D.getI (nthD (D.getL (nthD b (Int.toNat i))) 0) && (D.getI (nthD (D.getL (nthD a (Int.toNat i))) 1) == D.getI (nthD (D.getL (nthD b (Int.toNat i))) 1) && (D.getI (nthD (D.getL (nthD a (Int.toNat i))) 2) == D.getI (nthD (D.getL (nthD b (Int.toNat i))) 2) && (D.getI (nthD (D.getL (nthD a (Int.toNat i))) 3) == D.getI (nthD (D.getL (nthD b (Int.toNat i))) 3) && (D.getI (nthD (D.getL (nthD a (Int.toNat i))) 4) == D.getI (nthD (D.getL (nthD b (Int.toNat i))) 4) && (D.getI (nthD (D.getL (nthD a (Int.toNat i))) 5) == D.getI (nthD (D.getL (nthD b (Int.toNat i))) 5) && (D.getI (nthD (D.getL (nthD a (Int.toNat i))) 6) == D.getI (nthD (D.getL (nthD b (Int.toNat i))) 6) && (D.getI (nthD (D.getL (nthD a (Int.toNat i))) 7) == D.getI (nthD (D.getL (nthD b (Int.toNat i))) 7) && (D.getI (nthD (D.getL (nthD a (Int.toNat i))) 8) == D.getI (nthD (D.getL (nthD b (Int.toNat i))) 8) && (D.getI (nthD (D.getL (nthD a (Int.toNat i))) 9) == D.getI (nthD (D.getL (nthD b (Int.toNat i))) 9) && true)))))))))) then K (Exit.ret) (mkF 26 [(4, .dat (.bool false))]) ([]) else K (Exit.normal) (mkF 26 [(0, .dat (.slc (s25) a)), (1, .dat (.slc (s25) b)), (5, .dat (.int .i64 (IntKind.wrap IntKind.i64 (i + 1)))), (15, .dat (.int .i64 i)), (16, .dat (.int .i64 (IntKind.wrap IntKind.i64 (i + 1))))]) ([])) else none) else none) else none) else none) else none) else none) else K (Exit.exit 0) (mkF 26 []) ([])) := by kernel_rfl
theorem sm_hr (lp : Loops) (a b : List D) : ∀ (sA : Int) (K : Kt) (N : Int → Option Res), (∀ sB fr' σ', cleanF (liveAt Try.f13 0) 0 fr' = sm_fr a b sB → trim (0) (sm_fr a b sB) σ' = sm_st a b sB → K .normal fr' σ' = N sB) →
    oneRound (envOf tab SpC [] lp []) Try.f13 0 (0) (sm_fr a b sA) (sm_st a b sA) K = (sm_step a b sA).k (LK K N) := by
  intro i K N hN
  refine (sm_round lp a b i K).trans ?_
  show _ = T.k ((
  .chk (!decide (i < (↑(List.length a) : Int)) || decide (0 ≤ i) && (decide (Int.toNat i < List.length a) && (okE (k25) (nthD a (Int.toNat i)) && (decide (Int.toNat i < List.length b) && okE (k25) (nthD b (Int.toNat i)))))) (
   .br (!decide (i < (↑(List.length a) : Int))) (.leaf (.inr ((some 0), mkF 26 [], []))) (
    .br (decide (i < (↑(List.length a) : Int)) && !(D.getI (nthD (D.getL (nthD a (Int.toNat i))) 0) == D.getI (nthD (D.getL (nthD b (Int.toNat i))) 0) && (D.getI (nthD (D.getL (nthD a (Int.toNat i))) 1) == D.getI (nthD (D.getL (nthD b (Int.toNat i))) 1) && (D.getI (nthD (D.getL (nthD a (Int.toNat i))) 2) == D.getI (nthD (D.getL (nthD b (Int.toNat i))) 2) && (D.getI (nthD (D.getL (nthD a (Int.toNat i))) 3) == D.getI (nthD (D.getL (nthD b (Int.toNat i))) 3) && (D.getI (nthD (D.getL (nthD a (Int.toNat i))) 4) == D.getI (nthD (D.getL (nthD b (Int.toNat i))) 4) && (D.getI (nthD (D.getL (nthD a (Int.toNat i))) 5) == D.getI (nthD (D.getL (nthD b (Int.toNat i))) 5) && (D.getI (nthD (D.getL (nthD a (Int.toNat i))) 6) == D.getI (nthD (D.getL (nthD b (Int.toNat i))) 6) && (D.getI (nthD (D.getL (nthD a (Int.toNat i))) 7) == D.getI (nthD (D.getL (nthD b (Int.toNat i))) 7) && (D.getI (nthD (D.getL (nthD a (Int.toNat i))) 8) == D.getI (nthD (D.getL (nthD b (Int.toNat i))) 8) && (D.getI (nthD (D.getL (nthD a (Int.toNat i))) 9) == D.getI (nthD (D.getL (nthD b (Int.toNat i))) 9) && true))))))))))) (.leaf (.inr (none, mkF 26 [(4, .dat (.bool false))], []))) (.leaf (.inl (IntKind.wrap IntKind.i64 (i + 1))))))) : T (Int ⊕ LOut)) (LK K N)
  generalize (D.getI (nthD (D.getL (nthD a (Int.toNat i))) 0) == D.getI (nthD (D.getL (nthD b (Int.toNat i))) 0) && (D.getI (nthD (D.getL (nthD a (Int.toNat i))) 1) == D.getI (nthD (D.getL (nthD b (Int.toNat i))) 1) && (D.getI (nthD (D.getL (nthD a (Int.toNat i))) 2) == D.getI (nthD (D.getL (nthD b (Int.toNat i))) 2) && (D.getI (nthD (D.getL (nthD a (Int.toNat i))) 3) == D.getI (nthD (D.getL (nthD b (Int.toNat i))) 3) && (D.getI (nthD (D.getL (nthD a (Int.toNat i))) 4) == D.getI (nthD (D.getL (nthD b (Int.toNat i))) 4) && (D.getI (nthD (D.getL (nthD a (Int.toNat i))) 5) == D.getI (nthD (D.getL (nthD b (Int.toNat i))) 5) && (D.getI (nthD (D.getL (nthD a (Int.toNat i))) 6) == D.getI (nthD (D.getL (nthD b (Int.toNat i))) 6) && (D.getI (nthD (D.getL (nthD a (Int.toNat i))) 7) == D.getI (nthD (D.getL (nthD b (Int.toNat i))) 7) && (D.getI (nthD (D.getL (nthD a (Int.toNat i))) 8) == D.getI (nthD (D.getL (nthD b (Int.toNat i))) 8) && (D.getI (nthD (D.getL (nthD a (Int.toNat i))) 9) == D.getI (nthD (D.getL (nthD b (Int.toNat i))) 9) && true)))))))))) = z0
  generalize (okE (k25) (nthD a (Int.toNat i))) = z1
  generalize (okE (k25) (nthD b (Int.toNat i))) = z2
  generalize (decide (i < (↑(List.length a) : Int))) = z3
  generalize (decide (0 ≤ i)) = z4
  generalize (decide (Int.toNat i < List.length a)) = z5
  generalize (decide (Int.toNat i < List.length b)) = z6
  cases z3 with
  | true =>
   cases z4 with
   | true =>
    cases z5 with
    | true =>
     cases z1 with
     | true =>
      cases z6 with
      | true =>
       cases z2 with
       | true =>
        cases z0 with
        | true =>
         exact hN _ _ _ (by kernel_rfl) (by kernel_rfl)
        | false =>
         rfl
       | false =>
        rfl
      | false =>
       rfl
     | false =>
      rfl
    | false =>
     rfl
   | false =>
    rfl
  | false =>
   rfl
theorem sm_enter (a b : List D) (i : Int) (fr : Frame') (hl : Nat.beq fr.length 26 = true) (g0 : fr.getD 0 .undef = .dat (.slc (s25) a)) (g1 : fr.getD 1 .undef = .dat (.slc (s25) b)) (g5 : fr.getD 5 .undef = .dat (.int .i64 i)) : cleanF (liveAt Try.f13 0) 0 fr = sm_fr a b i := by
  have e : liveAt Try.f13 0 = [0, 1, 5] := by kernel_rfl
  rw [clean_mk (Nat.eq_of_beq_eq_true hl), e]
  show mkF 26 [(0, fr.getD 0 .undef), (1, fr.getD 1 .undef), (5, fr.getD 5 .undef)] = _
  rw [g0, g1, g5]
  kernel_rfl
end Go.Proofs.Ytdmmobjegfhneaa
