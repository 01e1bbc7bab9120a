/- Seat 20: AuditBack's rounds. -/
import Derived.Test.YtdmmobjegfhneaaO
import Derived.Test.YtdmmobjegfhneaaM
namespace Go.Proofs.Ytdmmobjegfhneaa
open Go.AX
set_option maxRecDepth 100000
set_option maxHeartbeats 2000000
abbrev SpT : Specs := [(6, C_addc), (8, C_al), (9, C_may), (11, C_rg), (14, C_rea), (16, C_bytc)]
theorem SpT_ok : SpecsOk Try.prog SpT := .cons caddc_ok (.cons cal_ok (.cons cmay_ok (.cons crg_ok (.cons crea_ok (.cons cbyt_ok' (.nil _))))))
abbrev HT : Hints := [(2, 0, [.freeze 7]), (21, 0, [.kill 0, .kill 1]), (999999, 44, [.is 44 (aBool false)]), (999999, 49, [.is 49 (aBool false)]), (999999, 61, [.is 61 (aBool false)]), (999999, 77, [.is 77 (aBool false)]), (999999, 95, [.is 95 (aBool false)]), (999999, 102, [.is 102 (aBool false)]), (999999, 109, [.is 109 (aBool true)]), (999999, 112, [.is 112 (aBool true)])]
def bk_t1 (nx : List D) (i : Int) := D.getL (nthD nx (Int.toNat i))
def bk_t2 (log : List D) (i : Int) := D.getL (nthD log (Int.toNat i))
def bk_t0 (log : List D) (nx : List D) (i : Int) := D.getI (nthD (bk_t1 nx i) 0) == D.getI (nthD (bk_t2 log i) 0) && (D.getI (nthD (bk_t1 nx i) 1) == D.getI (nthD (bk_t2 log i) 1) && (D.getI (nthD (bk_t1 nx i) 2) == D.getI (nthD (bk_t2 log i) 2) && (D.getI (nthD (bk_t1 nx i) 3) == D.getI (nthD (bk_t2 log i) 3) && (D.getI (nthD (bk_t1 nx i) 4) == D.getI (nthD (bk_t2 log i) 4) && (D.getI (nthD (bk_t1 nx i) 5) == D.getI (nthD (bk_t2 log i) 5) && (D.getI (nthD (bk_t1 nx i) 6) == D.getI (nthD (bk_t2 log i) 6) && (D.getI (nthD (bk_t1 nx i) 7) == D.getI (nthD (bk_t2 log i) 7) && (D.getI (nthD (bk_t1 nx i) 8) == D.getI (nthD (bk_t2 log i) 8) && (D.getI (nthD (bk_t1 nx i) 9) == D.getI (nthD (bk_t2 log i) 9) && true)))))))))
def bk_fr (l log nx b : List D) (m c : Int) : Int → Frame' := fun i => mkF 130 [(0, .dat (.slc s25 l)), (1, .dat (.int .i64 m)), (2, .dat (.slc .one b)), (7, .dat (.slc s25 log)), (8, .dat (.int .i64 c)), (9, .dat (.slc s25 nx)), (11, .dat (.int .i64 i))]
def bk_st (_l _log _nx _b : List D) (_m _c : Int) : Int → Store := fun _ => []
def bk_step (l log nx b : List D) (m c : Int) : Int → T (Int ⊕ LOut) := fun i =>
  .chk (!decide (i < (↑(List.length log) : Int)) || decide (0 ≤ i) && (decide (Int.toNat i < List.length nx) && (okE (k25) (nthD nx (Int.toNat i)) && (decide (Int.toNat i < List.length log) && (okE (k25) (nthD log (Int.toNat i)) && (bk_t0 log nx i)))))) (
   .br (!decide (i < (↑(List.length log) : Int))) (.leaf (.inr ((some 2), mkF 130 [(0, .dat (.slc (s25) l)), (1, .dat (.int .i64 m)), (2, .dat (.slc Sh.one b)), (8, .dat (.int .i64 c)), (9, .dat (.slc (s25) nx))], []))) (.leaf (.inl (IntKind.wrap IntKind.i64 (i + 1)))))
theorem bk_round (lp : Loops) (l log nx b : List D) (m c : Int) (i : Int) (K : Kt) : oneRound (envOf tab SpT [] lp HT) Try.f5 1 (0) (mkF 130 [(0, .dat (.slc s25 l)), (1, .dat (.int .i64 m)), (2, .dat (.slc .one b)), (7, .dat (.slc s25 log)), (8, .dat (.int .i64 c)), (9, .dat (.slc s25 nx)), (11, .dat (.int .i64 i))]) ([]) K =
  (bif decide (i < (↑(List.length log) : Int)) then
   (bif decide (0 ≤ i) then
    (bif decide (Int.toNat i < List.length nx) then
     (bif okE (k25) (nthD nx (Int.toNat i)) then
      (bif decide (0 ≤ i) then
       (bif decide (Int.toNat i < List.length log) then
        (bif okE (k25) (nthD log (Int.toNat i)) then
         (bif D.eqb (D.bool (true != (bk_t0 log nx i))) (D.bool false) then K (Exit.normal) (mkF 130 [(0, .dat (.slc (s25) l)), (1, .dat (.int .i64 m)), (2, .dat (.slc Sh.one b)), (7, .dat (.slc (s25) log)), (8, .dat (.int .i64 c)), (9, .dat (.slc (s25) nx)), (11, .dat (.int .i64 (IntKind.wrap IntKind.i64 (i + 1)))), (67, .dat (.int .i64 i)), (68, .dat (.int .i64 (IntKind.wrap IntKind.i64 (i + 1))))]) ([]) else none) else none) else none) else none) else none) else none) else none) else K (Exit.exit 2) (mkF 130 [(0, .dat (.slc (s25) l)), (1, .dat (.int .i64 m)), (2, .dat (.slc Sh.one b)), (8, .dat (.int .i64 c)), (9, .dat (.slc (s25) nx))]) ([])) := by kernel_rfl
theorem bk_hr (lp : Loops) (l log nx b : List D) (m c : Int) : ∀ (sA : Int) (K : Kt) (N : Int → Option Res), (∀ sB fr' σ', cleanF (liveAt Try.f5 1) 0 fr' = bk_fr l log nx b m c sB → trim (0) (bk_fr l log nx b m c sB) σ' = bk_st l log nx b m c sB → K .normal fr' σ' = N sB) →
    oneRound (envOf tab SpT [] lp HT) Try.f5 1 (0) (bk_fr l log nx b m c sA) (bk_st l log nx b m c sA) K = (bk_step l log nx b m c sA).k (LK K N) := by
  intro i K N hN
  refine (bk_round lp l log nx b m c i K).trans ?_
  show _ = T.k ((
  .chk (!decide (i < (↑(List.length log) : Int)) || decide (0 ≤ i) && (decide (Int.toNat i < List.length nx) && (okE (k25) (nthD nx (Int.toNat i)) && (decide (Int.toNat i < List.length log) && (okE (k25) (nthD log (Int.toNat i)) && (bk_t0 log nx i)))))) (
   .br (!decide (i < (↑(List.length log) : Int))) (.leaf (.inr ((some 2), mkF 130 [(0, .dat (.slc (s25) l)), (1, .dat (.int .i64 m)), (2, .dat (.slc Sh.one b)), (8, .dat (.int .i64 c)), (9, .dat (.slc (s25) nx))], []))) (.leaf (.inl (IntKind.wrap IntKind.i64 (i + 1)))))) : T (Int ⊕ LOut)) (LK K N)
  generalize (bk_t0 log nx i) = z0
  generalize (okE (k25) (nthD nx (Int.toNat i))) = z1
  generalize (okE (k25) (nthD log (Int.toNat i))) = z2
  generalize (decide (i < (↑(List.length log) : Int))) = z3
  generalize (decide (0 ≤ i)) = z4
  generalize (decide (Int.toNat i < List.length nx)) = z5
  generalize (decide (Int.toNat i < List.length log)) = z6
  cases z3 with
  | true =>
   cases z4 with
   | true =>
    cases z5 with
    | true =>
     cases z1 with
     | true =>
      cases z6 with
      | true =>
       cases z2 with
       | true =>
        cases z0 with
        | true =>
         exact hN _ _ _ (by kernel_rfl) (by kernel_rfl)
        | false =>
         rfl
       | false =>
        rfl
      | false =>
       rfl
     | false =>
      rfl
    | false =>
     rfl
   | false =>
    rfl
  | false =>
   rfl
theorem bk_enter (l log nx b : List D) (m c : Int) (i : Int) (fr : Frame') (hl : Nat.beq fr.length 130 = true) (g0 : fr.getD 0 .undef = .dat (.slc (s25) l)) (g1 : fr.getD 1 .undef = .dat (.int .i64 m)) (g2 : fr.getD 2 .undef = .dat (.slc Sh.one b)) (g7 : fr.getD 7 .undef = .dat (.slc (s25) log)) (g8 : fr.getD 8 .undef = .dat (.int .i64 c)) (g9 : fr.getD 9 .undef = .dat (.slc (s25) nx)) (g11 : fr.getD 11 .undef = .dat (.int .i64 i)) : cleanF (liveAt Try.f5 1) 0 fr = bk_fr l log nx b m c i := by
  have e : liveAt Try.f5 1 = [7, 11, 9, 8, 1, 0, 2] := by kernel_rfl
  rw [clean_mk (Nat.eq_of_beq_eq_true hl), e]
  show mkF 130 [(7, fr.getD 7 .undef), (11, fr.getD 11 .undef), (9, fr.getD 9 .undef), (8, fr.getD 8 .undef), (1, fr.getD 1 .undef), (0, fr.getD 0 .undef), (2, fr.getD 2 .undef)] = _
  rw [g7, g11, g9, g8, g1, g0, g2]
  kernel_rfl
def br_t3 (log : List D) (i : Int) := D.getL (nthD log (Int.toNat i))
def br_t0 (log : List D) (i : Int) := byD (D.getI (nthD (br_t3 log i) 0)) (D.getI (nthD (br_t3 log i) 1)) (D.getI (nthD (br_t3 log i) 2)) (D.getI (nthD (br_t3 log i) 3)) (D.getI (nthD (br_t3 log i) 4)) (D.getI (nthD (br_t3 log i) 5)) (D.getI (nthD (br_t3 log i) 6)) (D.getI (nthD (br_t3 log i) 7)) (D.getI (nthD (br_t3 log i) 8)) (D.getI (nthD (br_t3 log i) 9))
def br_t1 (log : List D) (i : Int) := reF (br_t0 log i) 0 8 == D.getI (nthD (br_t3 log i) 0) && (reF (br_t0 log i) 8 1 == D.getI (nthD (br_t3 log i) 1) && (reF (br_t0 log i) 9 1 == D.getI (nthD (br_t3 log i) 2) && (reF (br_t0 log i) 10 1 == D.getI (nthD (br_t3 log i) 3) && (reF (br_t0 log i) 11 1 == D.getI (nthD (br_t3 log i) 4) && (reF (br_t0 log i) 12 1 == D.getI (nthD (br_t3 log i) 5) && (reF (br_t0 log i) 13 1 == D.getI (nthD (br_t3 log i) 6) && (reF (br_t0 log i) 14 8 == D.getI (nthD (br_t3 log i) 7) && (reF (br_t0 log i) 22 8 == D.getI (nthD (br_t3 log i) 8) && (reF (br_t0 log i) 30 1 == D.getI (nthD (br_t3 log i) 9) && true)))))))))
def br_t2 (log : List D) (i : Int) := D.agg [D.int IntKind.u64 (D.getI (nthD (br_t3 log i) 0)), D.int .i64 (D.getI (nthD (br_t3 log i) 1)), D.int .i64 (D.getI (nthD (br_t3 log i) 2)), D.int .i64 (D.getI (nthD (br_t3 log i) 3)), D.int .i64 (D.getI (nthD (br_t3 log i) 4)), D.int .i64 (D.getI (nthD (br_t3 log i) 5)), D.int .i64 (D.getI (nthD (br_t3 log i) 6)), D.int IntKind.u64 (D.getI (nthD (br_t3 log i) 7)), D.int IntKind.u64 (D.getI (nthD (br_t3 log i) 8)), D.int .i64 (D.getI (nthD (br_t3 log i) 9))]
def br_fr (log b : List D) : Int → Frame' := fun i => mkF 130 [(2, .dat (.slc .one b)), (7, .dat (.slc s25 log)), (12, .dat (.int .i64 i))]
def br_st (_log _b : List D) : Int → Store := fun _ => []
def br_step (log b : List D) : Int → T (Int ⊕ LOut) := fun i =>
  .chk (!decide (i < (↑(List.length log) : Int)) || decide (0 ≤ i) && (decide (Int.toNat i < List.length log) && (okE (k25) (nthD log (Int.toNat i)) && (okEn (br_t2 log i) && u64 (D.getI (nthD (br_t3 log i) 0)) && (okB (br_t0 log i) && (!reR (br_t0 log i) != 0 && (br_t1 log i))))))) (
   .br (!decide (i < (↑(List.length log) : Int))) (.leaf (.inr ((some 4), mkF 130 [(2, .dat (.slc Sh.one b)), (7, .dat (.slc (s25) log))], []))) (.leaf (.inl (IntKind.wrap IntKind.i64 (i + 1)))))
theorem br_round (lp : Loops) (log b : List D) (i : Int) (K : Kt) : oneRound (envOf tab SpT [] lp HT) Try.f5 2 (0) (mkF 130 [(2, .dat (.slc .one b)), (7, .dat (.slc s25 log)), (12, .dat (.int .i64 i))]) ([]) K =
  (bif decide (i < (↑(List.length log) : Int)) then
   (bif decide (0 ≤ i) then
    (bif decide (Int.toNat i < List.length log) then
     (bif okE (k25) (nthD log (Int.toNat i)) then
      (bif okEn (br_t2 log i) && u64 (D.getI (nthD (br_t3 log i) 0)) then
       (bif okB (br_t0 log i) then
        (bif D.eqb (D.bool (reR (br_t0 log i) != 0)) (D.bool false) then
         (bif decide (0 ≤ i) then
          (bif decide (Int.toNat i < List.length log) then
           (bif okE (k25) (nthD log (Int.toNat i)) then
            (bif D.eqb (D.bool (true != (br_t1 log i))) (D.bool false) then K (Exit.normal) (mkF 130 [(2, .dat (.slc Sh.one b)), (7, .dat (.slc (s25) log)), (12, .dat (.int .i64 (IntKind.wrap IntKind.i64 (i + 1)))), (83, .dat (.int .i64 i)), (84, .dat (.int .i64 (IntKind.wrap IntKind.i64 (i + 1))))]) ([{ sh := s25, dyn := false, frz := false, v := .dat (.agg [D.int IntKind.u64 (reF (br_t0 log i) 0 8), D.int .i64 (reF (br_t0 log i) 8 1), D.int .i64 (reF (br_t0 log i) 9 1), D.int .i64 (reF (br_t0 log i) 10 1), D.int .i64 (reF (br_t0 log i) 11 1), D.int .i64 (reF (br_t0 log i) 12 1), D.int .i64 (reF (br_t0 log i) 13 1), D.int IntKind.u64 (reF (br_t0 log i) 14 8), D.int IntKind.u64 (reF (br_t0 log i) 22 8), D.int .i64 (reF (br_t0 log i) 30 1)]) }]) else none) else none) else none) else none) else none) else none) else none) else none) else none) else none) else K (Exit.exit 4) (mkF 130 [(2, .dat (.slc Sh.one b)), (7, .dat (.slc (s25) log))]) ([])) := by kernel_rfl
theorem br_hr (lp : Loops) (log b : List D) : ∀ (sA : Int) (K : Kt) (N : Int → Option Res), (∀ sB fr' σ', cleanF (liveAt Try.f5 2) 0 fr' = br_fr log b sB → trim (0) (br_fr log b sB) σ' = br_st log b sB → K .normal fr' σ' = N sB) →
    oneRound (envOf tab SpT [] lp HT) Try.f5 2 (0) (br_fr log b sA) (br_st log b sA) K = (br_step log b sA).k (LK K N) := by
  intro i K N hN
  refine (br_round lp log b i K).trans ?_
  show _ = T.k ((
  .chk (!decide (i < (↑(List.length log) : Int)) || decide (0 ≤ i) && (decide (Int.toNat i < List.length log) && (okE (k25) (nthD log (Int.toNat i)) && (okEn (br_t2 log i) && u64 (D.getI (nthD (br_t3 log i) 0)) && (okB (br_t0 log i) && (!reR (br_t0 log i) != 0 && (br_t1 log i))))))) (
   .br (!decide (i < (↑(List.length log) : Int))) (.leaf (.inr ((some 4), mkF 130 [(2, .dat (.slc Sh.one b)), (7, .dat (.slc (s25) log))], []))) (.leaf (.inl (IntKind.wrap IntKind.i64 (i + 1)))))) : T (Int ⊕ LOut)) (LK K N)
  generalize (br_t1 log i) = z0
  generalize (okEn (br_t2 log i) && u64 (D.getI (nthD (br_t3 log i) 0))) = z1
  generalize (reR (br_t0 log i) != 0) = z2
  generalize (okB (br_t0 log i)) = z3
  generalize (okE (k25) (nthD log (Int.toNat i))) = z4
  generalize (decide (i < (↑(List.length log) : Int))) = z5
  generalize (decide (0 ≤ i)) = z6
  generalize (decide (Int.toNat i < List.length log)) = z7
  cases z5 with
  | true =>
   cases z6 with
   | true =>
    cases z7 with
    | true =>
     cases z4 with
     | true =>
      cases z1 with
      | true =>
       cases z3 with
       | true =>
        cases z2 with
        | true =>
         rfl
        | false =>
         cases z0 with
         | true =>
          exact hN _ _ _ (by kernel_rfl) (by kernel_rfl)
         | false =>
          rfl
       | false =>
        rfl
      | false =>
       rfl
     | false =>
      rfl
    | false =>
     rfl
   | false =>
    rfl
  | false =>
   rfl
theorem br_enter (log b : List D) (i : Int) (fr : Frame') (hl : Nat.beq fr.length 130 = true) (g2 : fr.getD 2 .undef = .dat (.slc Sh.one b)) (g7 : fr.getD 7 .undef = .dat (.slc (s25) log)) (g12 : fr.getD 12 .undef = .dat (.int .i64 i)) : cleanF (liveAt Try.f5 2) 0 fr = br_fr log b i := by
  have e : liveAt Try.f5 2 = [12, 7, 2] := by kernel_rfl
  rw [clean_mk (Nat.eq_of_beq_eq_true hl), e]
  show mkF 130 [(12, fr.getD 12 .undef), (7, fr.getD 7 .undef), (2, fr.getD 2 .undef)] = _
  rw [g12, g7, g2]
  kernel_rfl
end Go.Proofs.Ytdmmobjegfhneaa
