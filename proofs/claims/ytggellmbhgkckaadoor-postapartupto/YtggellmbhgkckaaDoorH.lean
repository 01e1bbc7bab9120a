/- Seat 17: PostApart's rounds. -/
import Derived.Test.YtggellmbhgkckaaDoorG
import Derived.Test.YtggellmbhgkckaaDoorAx22
namespace Go.Proofs.YtggellmbhgkckaaDoor
open Go.AX
set_option maxRecDepth 100000
abbrev SpH : Specs := [(6, C_alive), (8, C_right), (9, C_gett), (10, C_of)]
theorem SpH_ok : SpecsOk Tryd.prog SpH := .cons calive_ok (.cons cright_ok (.cons cgett_ok (.cons cof_ok (.nil _))))
abbrev HH : Hints := [(23, 0, [.kill 0]), (999999, 20, [.is 20 (aBool true)]), (999999, 42, [.is 42 (aBool false)]), (999999, 50, [.is 50 (aBool false)]), (999999, 74, [.is 74 (aBool false)]), (999999, 84, [.is 84 (aBool false)]), (999999, 88, [.is 88 (aBool false)]), (999999, 103, [.is 103 (aBool false)]), (999999, 119, [.is 119 (aBool true)]), (999999, 122, [.is 122 (aBool true)])]
def ti_fr (ls hs : List D) (n w : Int) : Int → Frame' := fun j => mkF 124 [(0, .dat (.slc s23 ls)), (3, .dat (.int .i64 n)), (4, .dat (.int .i64 w)), (5, .dat (.slc .one hs)), (6, .dat (.int .i64 j))]
def ti_st (_ls _hs : List D) (_n _w : Int) : Int → Store := fun _ => []
def ti_step (ls hs : List D) (n w : Int) : Int → T (Int ⊕ LOut) := fun j =>
  .chk (!decide (j < (↑(List.length hs) : Int)) || decide (0 ≤ j) && (decide (Int.toNat j < List.length hs) && (okE (Ek.int IntKind.i64) (nthD hs (Int.toNat j)) && (!decide (D.getI (nthD hs (Int.toNat j)) < 0) && (!decide ((↑(List.length ls) : Int) ≤ D.getI (nthD hs (Int.toNat j))) && (gett_pre ls (D.getI (nthD hs (Int.toNat j))) && (!gett_v5 ls (D.getI (nthD hs (Int.toNat j))) w != 0 && (decide (0 ≤ D.getI (nthD hs (Int.toNat j))) && (decide (Int.toNat (D.getI (nthD hs (Int.toNat j))) < List.length ls) && (okE (k23) (nthD ls (Int.toNat (D.getI (nthD hs (Int.toNat j))))) && (gett_v0 ls (D.getI (nthD hs (Int.toNat j))) w == D.getB (nthD (D.getL (nthD ls (Int.toNat (D.getI (nthD hs (Int.toNat j)))))) 0) && (gett_v1 ls (D.getI (nthD hs (Int.toNat j))) w == D.getI (nthD (D.getL (nthD ls (Int.toNat (D.getI (nthD hs (Int.toNat j)))))) 1) && (gett_v2 ls (D.getI (nthD hs (Int.toNat j))) w == D.getI (nthD (D.getL (nthD ls (Int.toNat (D.getI (nthD hs (Int.toNat j)))))) 2) && (gett_v3 ls (D.getI (nthD hs (Int.toNat j))) w == D.getI (nthD (D.getL (nthD ls (Int.toNat (D.getI (nthD hs (Int.toNat j)))))) 3) && (decide (Array.toList (ByteArray.data (gett_v4 ls (D.getI (nthD hs (Int.toNat j))) w)) = Array.toList (ByteArray.data (D.getS (nthD (D.getL (nthD ls (Int.toNat (D.getI (nthD hs (Int.toNat j)))))) 4)))) && true)))) && (!gett_v5 ls (D.getI (nthD hs (Int.toNat j))) (IntKind.wrap IntKind.i64 (w + 1)) != 3 && (!decide (0 < j) || decide (0 ≤ IntKind.wrap IntKind.i64 (j - 1)) && (decide (Int.toNat (IntKind.wrap IntKind.i64 (j - 1)) < List.length hs) && (okE (Ek.int IntKind.i64) (nthD hs (Int.toNat (IntKind.wrap IntKind.i64 (j - 1)))) && !decide (D.getI (nthD hs (Int.toNat j)) ≤ D.getI (nthD hs (Int.toNat (IntKind.wrap IntKind.i64 (j - 1)))))))))))))))))))) (
   .br (!decide (j < (↑(List.length hs) : Int))) (.leaf (.inr ((some 2), mkF 124 [(0, .dat (.slc (s23) ls)), (3, .dat (.int .i64 n)), (4, .dat (.int .i64 w))], []))) (.leaf (.inl (IntKind.wrap IntKind.i64 (j + 1)))))
theorem ti_round (lp : Loops) (ls hs : List D) (n w : Int) (j : Int) (K : Kt) : oneRound (envOf tab SpH [] lp HH) Tryd.f4 1 (0) (mkF 124 [(0, .dat (.slc s23 ls)), (3, .dat (.int .i64 n)), (4, .dat (.int .i64 w)), (5, .dat (.slc .one hs)), (6, .dat (.int .i64 j))]) ([]) K =
  (bif decide (j < (↑(List.length hs) : Int)) then
   (bif decide (0 ≤ j) then
    (bif decide (Int.toNat j < List.length hs) then
     (bif okE (Ek.int IntKind.i64) (nthD hs (Int.toNat j)) then
      (bif D.eqb (D.bool (decide (D.getI (nthD hs (Int.toNat j)) < 0))) (D.bool false) then
       (bif decide (0 ≤ j) then
        (bif decide (Int.toNat j < List.length hs) then
         (bif okE (Ek.int IntKind.i64) (nthD hs (Int.toNat j)) then
          (bif D.eqb (D.bool (decide (D.getI (nthD hs (Int.toNat j)) ≥ (↑(List.length ls) : Int)))) (D.bool false) then
           (bif decide (0 ≤ j) then
            (bif decide (Int.toNat j < List.length hs) then
             (bif okE (Ek.int IntKind.i64) (nthD hs (Int.toNat j)) then
              (bif gett_pre ls (D.getI (nthD hs (Int.toNat j))) then
               (bif decide (0 ≤ j) then
                (bif decide (Int.toNat j < List.length hs) then
                 (bif okE (Ek.int IntKind.i64) (nthD hs (Int.toNat j)) then
                  (bif gett_pre ls (D.getI (nthD hs (Int.toNat j))) then
                   (bif D.eqb (D.bool (gett_v5 ls (D.getI (nthD hs (Int.toNat j))) w != 0)) (D.bool false) then
                    (bif decide (0 ≤ j) then
                     (bif decide (Int.toNat j < List.length hs) then
                      (bif okE (Ek.int IntKind.i64) (nthD hs (Int.toNat j)) then
                       (bif decide (0 ≤ D.getI (nthD hs (Int.toNat j))) then
                        (bif decide (Int.toNat (D.getI (nthD hs (Int.toNat j))) < List.length ls) then
                         (bif okE (k23) (nthD ls (Int.toNat (D.getI (nthD hs (Int.toNat j))))) then
                          (bif D.eqb (D.bool (true != (gett_v0 ls (D.getI (nthD hs (Int.toNat j))) w == D.getB (nthD (D.getL (nthD ls (Int.toNat (D.getI (nthD hs (Int.toNat j)))))) 0) && (gett_v1 ls (D.getI (nthD hs (Int.toNat j))) w == D.getI (nthD (D.getL (nthD ls (Int.toNat (D.getI (nthD hs (Int.toNat j)))))) 1) && (gett_v2 ls (D.getI (nthD hs (Int.toNat j))) w == D.getI (nthD (D.getL (nthD ls (Int.toNat (D.getI (nthD hs (Int.toNat j)))))) 2) && (gett_v3 ls (D.getI (nthD hs (Int.toNat j))) w == D.getI (nthD (D.getL (nthD ls (Int.toNat (D.getI (nthD hs (Int.toNat j)))))) 3) && (decide (Array.toList (ByteArray.data (gett_v4 ls (D.getI (nthD hs (Int.toNat j))) w)) = Array.toList (ByteArray.data (D.getS (nthD (D.getL (nthD ls (Int.toNat (D.getI (nthD hs (Int.toNat j)))))) 4)))) && true))))))) (D.bool false) then
                           (bif D.eqb (D.bool (gett_v5 ls (D.getI (nthD hs (Int.toNat j))) (IntKind.wrap IntKind.i64 (w + 1)) != 3)) (D.bool false) then
                            (bif decide (j > 0) then
                             (bif decide (0 ≤ IntKind.wrap IntKind.i64 (j - 1)) then
                              (bif decide (Int.toNat (IntKind.wrap IntKind.i64 (j - 1)) < List.length hs) then
                               (bif okE (Ek.int IntKind.i64) (nthD hs (Int.toNat (IntKind.wrap IntKind.i64 (j - 1)))) then
                                (bif decide (0 ≤ j) then
                                 (bif decide (Int.toNat j < List.length hs) then
                                  (bif okE (Ek.int IntKind.i64) (nthD hs (Int.toNat j)) then
                                   (bif D.eqb (D.bool (decide (D.getI (nthD hs (Int.toNat (IntKind.wrap IntKind.i64 (j - 1)))) ≥ D.getI (nthD hs (Int.toNat j))))) (D.bool false) then K (Exit.normal) (mkF 124 [(0, .dat (.slc (s23) ls)), (3, .dat (.int .i64 n)), (4, .dat (.int .i64 w)), (5, .dat (.slc Sh.one hs)), (6, .dat (.int .i64 (IntKind.wrap IntKind.i64 (j + 1)))), (36, .dat (.int .i64 j)), (37, .dat (.int .i64 (IntKind.wrap IntKind.i64 (j + 1))))]) ([{ sh := s23, dyn := false, frz := false, v := .dat (.agg [D.bool (gett_v0 ls (D.getI (nthD hs (Int.toNat j))) w), D.int .i64 (gett_v1 ls (D.getI (nthD hs (Int.toNat j))) w), D.int .i64 (gett_v2 ls (D.getI (nthD hs (Int.toNat j))) w), D.int .i64 (gett_v3 ls (D.getI (nthD hs (Int.toNat j))) w), D.str (gett_v4 ls (D.getI (nthD hs (Int.toNat j))) w)]) }, { sh := s23, dyn := false, frz := false, v := .dat (.agg [D.bool (gett_v0 ls (D.getI (nthD hs (Int.toNat j))) (IntKind.wrap IntKind.i64 (w + 1))), D.int .i64 (gett_v1 ls (D.getI (nthD hs (Int.toNat j))) (IntKind.wrap IntKind.i64 (w + 1))), D.int .i64 (gett_v2 ls (D.getI (nthD hs (Int.toNat j))) (IntKind.wrap IntKind.i64 (w + 1))), D.int .i64 (gett_v3 ls (D.getI (nthD hs (Int.toNat j))) (IntKind.wrap IntKind.i64 (w + 1))), D.str (gett_v4 ls (D.getI (nthD hs (Int.toNat j))) (IntKind.wrap IntKind.i64 (w + 1)))]) }]) else none) else none) else none) else none) else none) else none) else none) else K (Exit.normal) (mkF 124 [(0, .dat (.slc (s23) ls)), (3, .dat (.int .i64 n)), (4, .dat (.int .i64 w)), (5, .dat (.slc Sh.one hs)), (6, .dat (.int .i64 (IntKind.wrap IntKind.i64 (j + 1)))), (36, .dat (.int .i64 j)), (37, .dat (.int .i64 (IntKind.wrap IntKind.i64 (j + 1))))]) ([{ sh := s23, dyn := false, frz := false, v := .dat (.agg [D.bool (gett_v0 ls (D.getI (nthD hs (Int.toNat j))) w), D.int .i64 (gett_v1 ls (D.getI (nthD hs (Int.toNat j))) w), D.int .i64 (gett_v2 ls (D.getI (nthD hs (Int.toNat j))) w), D.int .i64 (gett_v3 ls (D.getI (nthD hs (Int.toNat j))) w), D.str (gett_v4 ls (D.getI (nthD hs (Int.toNat j))) w)]) }, { sh := s23, dyn := false, frz := false, v := .dat (.agg [D.bool (gett_v0 ls (D.getI (nthD hs (Int.toNat j))) (IntKind.wrap IntKind.i64 (w + 1))), D.int .i64 (gett_v1 ls (D.getI (nthD hs (Int.toNat j))) (IntKind.wrap IntKind.i64 (w + 1))), D.int .i64 (gett_v2 ls (D.getI (nthD hs (Int.toNat j))) (IntKind.wrap IntKind.i64 (w + 1))), D.int .i64 (gett_v3 ls (D.getI (nthD hs (Int.toNat j))) (IntKind.wrap IntKind.i64 (w + 1))), D.str (gett_v4 ls (D.getI (nthD hs (Int.toNat j))) (IntKind.wrap IntKind.i64 (w + 1)))]) }])) else none) else none) else none) else none) else none) else none) else none) else none) else none) else none) else none) else none) else none) else none) else none) else none) else none) else none) else none) else none) else none) else none) else none) else none) else none) else K (Exit.exit 2) (mkF 124 [(0, .dat (.slc (s23) ls)), (3, .dat (.int .i64 n)), (4, .dat (.int .i64 w))]) ([])) := by kernel_rfl
theorem ti_hr (lp : Loops) (ls hs : List D) (n w : Int) : ∀ (sA : Int) (K : Kt) (N : Int → Option Res), (∀ sB fr' σ', cleanF (liveAt Tryd.f4 1) 0 fr' = ti_fr ls hs n w sB → trim (0) (ti_fr ls hs n w sB) σ' = ti_st ls hs n w sB → K .normal fr' σ' = N sB) →
    oneRound (envOf tab SpH [] lp HH) Tryd.f4 1 (0) (ti_fr ls hs n w sA) (ti_st ls hs n w sA) K = (ti_step ls hs n w sA).k (LK K N) := by
  intro j K N hN
  refine (ti_round lp ls hs n w j K).trans ?_
  show _ = T.k ((
  .chk (!decide (j < (↑(List.length hs) : Int)) || decide (0 ≤ j) && (decide (Int.toNat j < List.length hs) && (okE (Ek.int IntKind.i64) (nthD hs (Int.toNat j)) && (!decide (D.getI (nthD hs (Int.toNat j)) < 0) && (!decide ((↑(List.length ls) : Int) ≤ D.getI (nthD hs (Int.toNat j))) && (gett_pre ls (D.getI (nthD hs (Int.toNat j))) && (!gett_v5 ls (D.getI (nthD hs (Int.toNat j))) w != 0 && (decide (0 ≤ D.getI (nthD hs (Int.toNat j))) && (decide (Int.toNat (D.getI (nthD hs (Int.toNat j))) < List.length ls) && (okE (k23) (nthD ls (Int.toNat (D.getI (nthD hs (Int.toNat j))))) && (gett_v0 ls (D.getI (nthD hs (Int.toNat j))) w == D.getB (nthD (D.getL (nthD ls (Int.toNat (D.getI (nthD hs (Int.toNat j)))))) 0) && (gett_v1 ls (D.getI (nthD hs (Int.toNat j))) w == D.getI (nthD (D.getL (nthD ls (Int.toNat (D.getI (nthD hs (Int.toNat j)))))) 1) && (gett_v2 ls (D.getI (nthD hs (Int.toNat j))) w == D.getI (nthD (D.getL (nthD ls (Int.toNat (D.getI (nthD hs (Int.toNat j)))))) 2) && (gett_v3 ls (D.getI (nthD hs (Int.toNat j))) w == D.getI (nthD (D.getL (nthD ls (Int.toNat (D.getI (nthD hs (Int.toNat j)))))) 3) && (decide (Array.toList (ByteArray.data (gett_v4 ls (D.getI (nthD hs (Int.toNat j))) w)) = Array.toList (ByteArray.data (D.getS (nthD (D.getL (nthD ls (Int.toNat (D.getI (nthD hs (Int.toNat j)))))) 4)))) && true)))) && (!gett_v5 ls (D.getI (nthD hs (Int.toNat j))) (IntKind.wrap IntKind.i64 (w + 1)) != 3 && (!decide (0 < j) || decide (0 ≤ IntKind.wrap IntKind.i64 (j - 1)) && (decide (Int.toNat (IntKind.wrap IntKind.i64 (j - 1)) < List.length hs) && (okE (Ek.int IntKind.i64) (nthD hs (Int.toNat (IntKind.wrap IntKind.i64 (j - 1)))) && !decide (D.getI (nthD hs (Int.toNat j)) ≤ D.getI (nthD hs (Int.toNat (IntKind.wrap IntKind.i64 (j - 1)))))))))))))))))))) (
   .br (!decide (j < (↑(List.length hs) : Int))) (.leaf (.inr ((some 2), mkF 124 [(0, .dat (.slc (s23) ls)), (3, .dat (.int .i64 n)), (4, .dat (.int .i64 w))], []))) (.leaf (.inl (IntKind.wrap IntKind.i64 (j + 1)))))) : T (Int ⊕ LOut)) (LK K N)
  generalize (gett_v0 ls (D.getI (nthD hs (Int.toNat j))) w == D.getB (nthD (D.getL (nthD ls (Int.toNat (D.getI (nthD hs (Int.toNat j)))))) 0) && (gett_v1 ls (D.getI (nthD hs (Int.toNat j))) w == D.getI (nthD (D.getL (nthD ls (Int.toNat (D.getI (nthD hs (Int.toNat j)))))) 1) && (gett_v2 ls (D.getI (nthD hs (Int.toNat j))) w == D.getI (nthD (D.getL (nthD ls (Int.toNat (D.getI (nthD hs (Int.toNat j)))))) 2) && (gett_v3 ls (D.getI (nthD hs (Int.toNat j))) w == D.getI (nthD (D.getL (nthD ls (Int.toNat (D.getI (nthD hs (Int.toNat j)))))) 3) && (decide (Array.toList (ByteArray.data (gett_v4 ls (D.getI (nthD hs (Int.toNat j))) w)) = Array.toList (ByteArray.data (D.getS (nthD (D.getL (nthD ls (Int.toNat (D.getI (nthD hs (Int.toNat j)))))) 4)))) && true))))) = z0
  generalize (decide (D.getI (nthD hs (Int.toNat j)) ≤ D.getI (nthD hs (Int.toNat (IntKind.wrap IntKind.i64 (j - 1)))))) = z1
  generalize (decide (0 ≤ IntKind.wrap IntKind.i64 (j - 1))) = z2
  generalize (decide (Int.toNat (IntKind.wrap IntKind.i64 (j - 1)) < List.length hs)) = z3
  generalize (gett_v5 ls (D.getI (nthD hs (Int.toNat j))) (IntKind.wrap IntKind.i64 (w + 1)) != 3) = z4
  generalize (okE (k23) (nthD ls (Int.toNat (D.getI (nthD hs (Int.toNat j)))))) = z5
  generalize (decide ((↑(List.length ls) : Int) ≤ D.getI (nthD hs (Int.toNat j)))) = z6
  generalize (decide (0 ≤ D.getI (nthD hs (Int.toNat j)))) = z7
  generalize (decide (D.getI (nthD hs (Int.toNat j)) < 0)) = z8
  generalize (decide (Int.toNat (D.getI (nthD hs (Int.toNat j))) < List.length ls)) = z9
  generalize (okE (Ek.int IntKind.i64) (nthD hs (Int.toNat (IntKind.wrap IntKind.i64 (j - 1))))) = z10
  generalize (decide (j < (↑(List.length hs) : Int))) = z11
  generalize (gett_v5 ls (D.getI (nthD hs (Int.toNat j))) w != 0) = z12
  generalize (decide (0 ≤ j)) = z13
  generalize (decide (0 < j)) = z14
  generalize (decide (Int.toNat j < List.length hs)) = z15
  generalize (okE (Ek.int IntKind.i64) (nthD hs (Int.toNat j))) = z16
  generalize (gett_pre ls (D.getI (nthD hs (Int.toNat j)))) = z17
  cases z11 with
  | true =>
   cases z13 with
   | true =>
    cases z15 with
    | true =>
     cases z16 with
     | true =>
      cases z8 with
      | true =>
       rfl
      | false =>
       cases z6 with
       | true =>
        rfl
       | false =>
        cases z17 with
        | true =>
         cases z12 with
         | true =>
          rfl
         | false =>
          cases z7 with
          | true =>
           cases z9 with
           | true =>
            cases z5 with
            | true =>
             cases z0 with
             | true =>
              cases z4 with
              | true =>
               rfl
              | false =>
               cases z14 with
               | true =>
                cases z2 with
                | true =>
                 cases z3 with
                 | true =>
                  cases z10 with
                  | true =>
                   cases z1 with
                   | true =>
                    rfl
                   | false =>
                    exact hN _ _ _ (by kernel_rfl) (by kernel_rfl)
                  | false =>
                   rfl
                 | false =>
                  rfl
                | false =>
                 rfl
               | false =>
                exact hN _ _ _ (by kernel_rfl) (by kernel_rfl)
             | false =>
              rfl
            | false =>
             rfl
           | false =>
            rfl
          | false =>
           rfl
        | false =>
         rfl
     | false =>
      rfl
    | false =>
     rfl
   | false =>
    rfl
  | false =>
   rfl
theorem ti_enter (ls hs : List D) (n w : Int) (j : Int) (fr : Frame') (hl : Nat.beq fr.length 124 = true) (g0 : fr.getD 0 .undef = .dat (.slc (s23) ls)) (g3 : fr.getD 3 .undef = .dat (.int .i64 n)) (g4 : fr.getD 4 .undef = .dat (.int .i64 w)) (g5 : fr.getD 5 .undef = .dat (.slc Sh.one hs)) (g6 : fr.getD 6 .undef = .dat (.int .i64 j)) : cleanF (liveAt Tryd.f4 1) 0 fr = ti_fr ls hs n w j := by
  have e : liveAt Tryd.f4 1 = [5, 6, 4, 0, 3] := by kernel_rfl
  rw [clean_mk (Nat.eq_of_beq_eq_true hl), e]
  show mkF 124 [(5, fr.getD 5 .undef), (6, fr.getD 6 .undef), (4, fr.getD 4 .undef), (0, fr.getD 0 .undef), (3, fr.getD 3 .undef)] = _
  rw [g5, g6, g4, g0, g3]
  kernel_rfl
def isOf (ls : List D) (w : Int) (i : Nat) : Bool := fU (nthD ls i) && fI (nthD ls i) 3 == w
def ofTo (ls : List D) (w : Int) : List D := colTo (isOf ls w) ls.length
def goodP (ls : List D) (w : Int) (d : D) : Bool := okE (.int .i64) d && (decide (0 ≤ D.getI d) && (decide (D.getI d < (ls.length : Int)) && isOf ls w (D.getI d).toNat))
def upB (hs : List D) : Bool := (List.range hs.length).all fun j => decide (j = 0) || decide (D.getI (nthD hs (j - 1)) < D.getI (nthD hs j))
abbrev tiC (ls hs : List D) (w : Int) : Bool := ls.all (okE k23) && (decide (ls.length ≤ 1048576) && (hs.all (goodP ls w) && (upB hs && (decide (hs.length ≤ 1099511627776) && (decide (0 ≤ w) && decide (w < 128))))))
theorem get_is {ls : List D} (_ : ls.all (okE k23) = true) {i : Nat} (hi : i < ls.length) {w : Int} (hw : isOf ls w i = true) :
    gett_v5 ls i w = 0 ∧ gett_v0 ls i w = fU (nthD ls i) ∧ gett_v1 ls i w = fI (nthD ls i) 1 ∧ gett_v2 ls i w = fI (nthD ls i) 2 ∧ gett_v3 ls i w = fI (nthD ls i) 3 ∧ gett_v4 ls i w = fS (nthD ls i) := by
  unfold isOf at hw
  rw [Bool.and_eq_true] at hw
  have hh : ihas_v0 ls (i : Int) = true := by rw [has_is hi]; exact hw.1
  have e : (fI (nthD ls i) 3 != w) = false := by rw [bne, hw.2]; rfl
  unfold gett_v5 gett_v0 gett_v1 gett_v2 gett_v3 gett_v4
  rw [hh, Int.toNat_natCast, e]
  exact ⟨rfl, rfl, rfl, rfl, rfl, rfl⟩
theorem get_no {ls : List D} {i : Nat} (_ : i < ls.length) {w : Int} (hw : isOf ls w i = true) : gett_v5 ls i (w + 1) = 3 := by
  unfold isOf at hw
  rw [Bool.and_eq_true] at hw
  have e3 : fI (nthD ls i) 3 = w := by simpa using hw.2
  have e : (fI (nthD ls i) 3 != w + 1) = true := by rw [e3]; simp; omega
  unfold gett_v5
  rw [Int.toNat_natCast, e]
  cases ihas_v0 ls (i : Int) <;> rfl
theorem ti_closed (ls hs : List D) (n w : Int) (hc : tiC ls hs w = true) :
    ∃ z, (iterT (ti_step ls hs n w) z 0).run = T.run (.leaf (some 2, mkF 124 [(0, .dat (.slc s23 ls)), (3, .dat (.int .i64 n)), (4, .dat (.int .i64 w))], [])) := by
  simp only [tiC, Bool.and_eq_true, decide_eq_true_eq] at hc
  obtain ⟨h1, hl, hg, hu, hh, w0, w1⟩ := hc
  have hww : IntKind.wrap .i64 (w + 1) = w + 1 := by rw [IntKind.wrap_i64]; omega
  refine iter_countFrom (a := 0) (n := hs.length) (Nat.zero_le _) (fun i _ hi => ?_) ?_
  · have hq := List.all_eq_true.1 hg _ (nthD_mem hi)
    unfold goodP at hq
    simp only [Bool.and_eq_true, decide_eq_true_eq] at hq
    obtain ⟨q1, q2, q3, q4⟩ := hq
    obtain ⟨t, ht⟩ : ∃ t : Nat, D.getI (nthD hs i) = (t : Int) := ⟨(D.getI (nthD hs i)).toNat, by omega⟩
    rw [ht, Int.toNat_natCast] at q4
    have htl : t < ls.length := by omega
    obtain ⟨g5, g0, g1, g2, g3, g4⟩ := get_is h1 htl q4
    have gn := get_no htl q4
    have gp := gett_is h1 hl htl
    have hup : (!decide (0 < (i : Int)) || decide (0 ≤ IntKind.wrap IntKind.i64 ((i : Int) - 1)) && (decide (Int.toNat (IntKind.wrap IntKind.i64 ((i : Int) - 1)) < hs.length) && (okE (Ek.int IntKind.i64) (nthD hs (Int.toNat (IntKind.wrap IntKind.i64 ((i : Int) - 1)))) && !decide ((t : Int) ≤ D.getI (nthD hs (Int.toNat (IntKind.wrap IntKind.i64 ((i : Int) - 1)))))))) = true := by
      by_cases h0 : i = 0
      · subst h0; rfl
      · have e : IntKind.wrap .i64 ((i : Int) - 1) = ((i - 1 : Nat) : Int) := by rw [IntKind.wrap_i64]; omega
        have hb := List.all_eq_true.1 hg _ (nthD_mem (show i - 1 < hs.length by omega))
        unfold goodP at hb
        simp only [Bool.and_eq_true] at hb
        have hlt := List.all_eq_true.1 hu i (List.mem_range.2 hi)
        rw [decide_eq_false h0, Bool.false_or, decide_eq_true_eq, ht] at hlt
        rw [e, Int.toNat_natCast, hb.1, decide_eq_true (show i - 1 < hs.length by omega), decide_eq_true (show (0 : Int) ≤ ((i - 1 : Nat) : Int) by omega), decide_eq_false (show ¬ (t : Int) ≤ D.getI (nthD hs (i - 1)) by omega)]; simp
    unfold ti_step
    simp only [decide_eq_true (show (i : Int) < (hs.length : Int) by omega), decide_eq_true (show (0 : Int) ≤ (i : Int) by omega), Int.toNat_natCast, decide_eq_true hi, q1, ht, decide_eq_false (show ¬ (t : Int) < 0 by omega), decide_eq_false (show ¬ (ls.length : Int) ≤ (t : Int) by omega), decide_eq_true (show (0 : Int) ≤ (t : Int) by omega), g0, g1, g2, g3, g4, g5, gp, hww, gn, allE_nth h1 htl, decide_eq_true htl, beq_self_eq_true, bne_self_eq_false, decide_true, wrap_succ (show i < 2 ^ 62 by omega), Bool.not_true, Bool.not_false, Bool.false_or, Bool.and_true, hup, T.run_br, T.run_chk, T.run_leaf, cond_true, cond_false]
  · unfold ti_step
    simp only [decide_eq_false (show ¬ (hs.length : Int) < (hs.length : Int) by omega)]
    rfl
def L_ti : Frame' → Store → T (Exit × Frame' × Store) := fun fr σ => match fr.getD 0 .undef, fr.getD 3 .undef, fr.getD 4 .undef, fr.getD 5 .undef, fr.getD 6 .undef, σ with
  | AV.dat (D.slc (Sh.agg [Sh.one, Sh.one, Sh.one, Sh.one, Sh.one]) ls), AV.dat (D.int IntKind.i64 n), AV.dat (D.int IntKind.i64 w), AV.dat (D.slc Sh.one hs), AV.dat (D.int IntKind.i64 0), [] => .chk (Nat.beq fr.length 124 && (tiC ls hs w)) (T.bind (.leaf (some 2, mkF 124 [(0, .dat (.slc s23 ls)), (3, .dat (.int .i64 n)), (4, .dat (.int .i64 w))], [])) fun o => .leaf (outEx o.1, o.2.1, o.2.2))
  | _, _, _, _, _, _ => .fail
theorem ti_sem (lp : Loops) : ∀ fr σ p, (L_ti fr σ).run = some p → ∀ (K : Kt) r, K p.1 p.2.1 p.2.2 = some r → ∃ n, loopRun (envOf tab SpH [] lp HH) Tryd.f4 1 σ.length n (cleanF (liveAt Tryd.f4 1) 0 fr) σ K = some r := by
  intro fr σ p h K r hK
  unfold L_ti at h
  split at h
  · rename_i ls n w hs g0 g3 g4 g5 g6
    obtain ⟨hc, h'⟩ := T.chk_some h
    rw [Bool.and_eq_true] at hc
    obtain ⟨hl, hc⟩ := hc
    obtain ⟨o, ho, h'⟩ := T.bind_some h'
    have hp := T.leaf_some h'
    subst hp
    obtain ⟨nF, hn⟩ : ∃ nF, (iterT (ti_step ls hs n w) nF (0)).run = T.run (.leaf (some 2, mkF 124 [(0, .dat (.slc s23 ls)), (3, .dat (.int .i64 n)), (4, .dat (.int .i64 w))], [])) := ti_closed ls hs n w hc
    rw [ho] at hn
    refine ⟨nF, ?_⟩
    have he : cleanF (liveAt Tryd.f4 1) 0 fr = ti_fr ls hs n w (0) := ti_enter ls hs n w _ fr hl g0 g3 g4 g5 g6
    refine (iter_ok (base := 0) (ti_hr lp ls hs n w) K nF (0) _ _ (by rw [clean_clean]; exact he) (by kernel_rfl)).trans ?_
    rw [T.k_run hn]
    exact hK
  · simp [T.run_fail] at h
theorem ti_loopOk {k : Nat} (lp : Loops) (hk : Loops.get lp 10 = some L_ti) : LoopOkN Tryd.prog k (envOf tab SpH [] lp HH) (loopAt Tryd.f4 1).1 (loopAt Tryd.f4 1).2 := loop_okN (L := L_ti) (by kernel_rfl) hk (ti_sem lp)
def tx_fr (ls : List D) : (Int × Int) → Frame' := fun ⟨i, n⟩ => mkF 124 [(0, .dat (.slc s23 ls)), (3, .dat (.int .i64 n)), (11, .dat (.int .i64 i))]
def tx_st (_ls : List D) : (Int × Int) → Store := fun ⟨_, _⟩ => []
def tx_step (ls : List D) : (Int × Int) → T ((Int × Int) ⊕ LOut) := fun ⟨i, n⟩ =>
  .chk (!decide (i < (↑(List.length ls) : Int)) || decide (0 ≤ i) && (decide (Int.toNat i < List.length ls) && okE (k23) (nthD ls (Int.toNat i)))) (
   .br (!decide (i < (↑(List.length ls) : Int))) (.leaf (.inr ((some 4), mkF 124 [(3, .dat (.int .i64 n))], []))) (.leaf (.inl ((IntKind.wrap IntKind.i64 (i + 1)), (bif D.getB (nthD (D.getL (nthD ls (Int.toNat i))) 0) then IntKind.wrap IntKind.i64 (n - 1) else n)))))
theorem tx_round (lp : Loops) (ls : List D) (i n : Int) (K : Kt) : oneRound (envOf tab SpH [] lp HH) Tryd.f4 2 (0) (mkF 124 [(0, .dat (.slc s23 ls)), (3, .dat (.int .i64 n)), (11, .dat (.int .i64 i))]) ([]) K =
  (bif decide (i < (↑(List.length ls) : Int)) then
   (bif decide (0 ≤ i) then
    (bif decide (Int.toNat i < List.length ls) then
     (bif okE (k23) (nthD ls (Int.toNat i)) then
      (bif D.getB (nthD (D.getL (nthD ls (Int.toNat i))) 0) then K (Exit.normal) (mkF 124 [(0, .dat (.slc (s23) ls)), (3, .dat (.int .i64 (IntKind.wrap IntKind.i64 (n - 1)))), (11, .dat (.int .i64 (IntKind.wrap IntKind.i64 (i + 1)))), (110, .dat (.int .i64 i)), (111, .dat (.int .i64 (IntKind.wrap IntKind.i64 (i + 1))))]) ([]) else K (Exit.normal) (mkF 124 [(0, .dat (.slc (s23) ls)), (3, .dat (.int .i64 n)), (11, .dat (.int .i64 (IntKind.wrap IntKind.i64 (i + 1)))), (110, .dat (.int .i64 i)), (111, .dat (.int .i64 (IntKind.wrap IntKind.i64 (i + 1))))]) ([])) else none) else none) else none) else K (Exit.exit 4) (mkF 124 [(3, .dat (.int .i64 n))]) ([])) := by kernel_rfl
theorem tx_hr (lp : Loops) (ls : List D) : ∀ (sA : (Int × Int)) (K : Kt) (N : (Int × Int) → Option Res), (∀ sB fr' σ', cleanF (liveAt Tryd.f4 2) 0 fr' = tx_fr ls sB → trim (0) (tx_fr ls sB) σ' = tx_st ls sB → K .normal fr' σ' = N sB) →
    oneRound (envOf tab SpH [] lp HH) Tryd.f4 2 (0) (tx_fr ls sA) (tx_st ls sA) K = (tx_step ls sA).k (LK K N) := by
  intro sA K N hN
  obtain ⟨i, n⟩ := sA
  refine (tx_round lp ls i n K).trans ?_
  show _ = T.k ((
  .chk (!decide (i < (↑(List.length ls) : Int)) || decide (0 ≤ i) && (decide (Int.toNat i < List.length ls) && okE (k23) (nthD ls (Int.toNat i)))) (
   .br (!decide (i < (↑(List.length ls) : Int))) (.leaf (.inr ((some 4), mkF 124 [(3, .dat (.int .i64 n))], []))) (.leaf (.inl ((IntKind.wrap IntKind.i64 (i + 1)), (bif D.getB (nthD (D.getL (nthD ls (Int.toNat i))) 0) then IntKind.wrap IntKind.i64 (n - 1) else n)))))) : T ((Int × Int) ⊕ LOut)) (LK K N)
  generalize (okE (k23) (nthD ls (Int.toNat i))) = z0
  generalize (decide (i < (↑(List.length ls) : Int))) = z1
  generalize (decide (0 ≤ i)) = z2
  generalize (decide (Int.toNat i < List.length ls)) = z3
  generalize (D.getB (nthD (D.getL (nthD ls (Int.toNat i))) 0)) = z4
  cases z1 with
  | true =>
   cases z2 with
   | true =>
    cases z3 with
    | true =>
     cases z0 with
     | true =>
      cases z4 with
      | true =>
       exact hN _ _ _ (by kernel_rfl) (by kernel_rfl)
      | false =>
       exact hN _ _ _ (by kernel_rfl) (by kernel_rfl)
     | false =>
      rfl
    | false =>
     rfl
   | false =>
    rfl
  | false =>
   rfl
theorem tx_enter (ls : List D) (i n : Int) (fr : Frame') (hl : Nat.beq fr.length 124 = true) (g0 : fr.getD 0 .undef = .dat (.slc (s23) ls)) (g3 : fr.getD 3 .undef = .dat (.int .i64 n)) (g11 : fr.getD 11 .undef = .dat (.int .i64 i)) : cleanF (liveAt Tryd.f4 2) 0 fr = tx_fr ls (i, n) := by
  have e : liveAt Tryd.f4 2 = [0, 11, 3] := by kernel_rfl
  rw [clean_mk (Nat.eq_of_beq_eq_true hl), e]
  show mkF 124 [(0, fr.getD 0 .undef), (11, fr.getD 11 .undef), (3, fr.getD 3 .undef)] = _
  rw [g0, g11, g3]
  kernel_rfl
end Go.Proofs.YtggellmbhgkckaaDoor
