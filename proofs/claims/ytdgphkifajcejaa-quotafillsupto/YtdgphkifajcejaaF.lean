/- Seat 06: QuotaTells. -/
import Derived.Test.YtdgphkifajcejaaE
namespace Go.Proofs.Ytdgphkifajcejaa
open Go.AX
set_option maxRecDepth 100000

def C_alive : FunT := fun args σ => match args, σ with
  | [], [] => .leaf ([.dat (.bool true)], [])
  | _, _ => .fail
theorem alive_ok : FunOk Try.prog 14 (FunT.run C_alive) := by
  refine fun_ok (E := envOf tab Sq [] [] []) (fz := true) (fn := Try.f14) (envOf_ok progOk Sq_ok) (by kernel_rfl) (by kernel_rfl) (loops_none (by kernel_rfl)) ?_
  intro args σ r h
  unfold C_alive at h
  split at h
  · exact alive_run.trans h
  · simp [T.run_fail] at h
abbrev Sr : Specs := (14, C_alive) :: Sq
theorem Sr_ok : SpecsOk Try.prog Sr := .cons alive_ok Sq_ok

abbrev H3 : Hints := [(999999, 22, [.is 22 (aBool false)]), (999999, 56, [.is 56 (aBool false)]), (999999, 60, [.is 60 (aBool false)]), (999999, 65, [.is 65 (aBool false)]), (999999, 70, [.is 70 (aBool true)]), (999999, 76, [.is 76 (aBool false)]), (999999, 89, [.is 89 (aBool false)]), (999999, 93, [.is 93 (aBool true)]), (999999, 96, [.is 96 (aBool true)]), (999999, 102, [.is 102 (aBool true)]), (999999, 110, [.is 110 (aBool true)]), (999999, 131, [.is 131 (aBool true)])]
theorem tells_run (ds : List D) (i x : Int) : runF (envOf tab Sr [] [] H3) true Try.f3 [.dat (.slc .one ds), .dat (.int .i64 i), .dat (.int .i64 x)] [] =
  (bif fits Sh.one ds && decide (List.length ds * (8 : Nat) ≤ (35184372088832 : Nat)) then 
   (bif okL ds then 
    (bif okL ds then 
     (bif okL ds then 
      (bif okL ds then 
       (bif okL ds then 
        (bif (firstI ds != firstI ds) == false then 
         (bif (firstE ds != firstE ds) == false then 
          (bif ((bif inB ds i then (0 : Int) else (1 : Int)) != bif inB ds i then (0 : Int) else (1 : Int)) == false then 
           (bif okL (putL ds i x) && okL (putL ds i x) then 
            (bif D.eqbL (putL ds i x) (putL ds i x) == true then 
             (bif (firstE ds != firstE ds) == false then 
              (bif firstE ds == (0 : Int) then 
               (bif okL ds then 
                (bif (firstI ds != firstI ds) == false then 
                 (bif okL (addL ds x) && okL (putL ds (firstI ds) x) then 
                  (bif D.eqbL (addL ds x) (putL ds (firstI ds) x) == true then 
                   (bif okL ds then 
                    (bif okL ds then 
                     (bif okL (slotsTo ds (List.length ds)) && okL (slotsTo ds (List.length ds)) then 
                      (bif D.eqbL (slotsTo ds (List.length ds)) (slotsTo ds (List.length ds)) == true then 
                       (bif okL ds then 
                        (bif okL ds then 
                         (bif ((↑(List.length (slotsTo ds (List.length ds))) : Int) == (↑(List.length (slotsTo ds (List.length ds))) : Int)) == true then 
                          (bif okL ds then 
                           (bif decide (i ≥ (0 : Int)) == true then 
                            (bif decide (i ≥ (0 : Int)) then 
                             (bif decide (i < (↑(List.length ds) : Int)) == true then 
                              (bif decide ((0 : Int) ≤ i) then 
                               (bif decide (Int.toNat i < List.length ds) then 
                                (bif okE (Ek.int IntKind.i64) (nthD ds (Int.toNat i)) then 
                                 (bif decide (i < (↑(List.length ds) : Int)) then 
                                  (bif (false != (hasB ds i == (D.getI (nthD ds (Int.toNat i)) != (0 : Int)))) == true then 
                                   (bif (firstE ds == (0 : Int)) == false then 
                                    (bif ((↑(List.length (addL ds x)) : Int) == (0 : Int)) == true then 
                                     (bif (↑(List.length (addL ds x)) : Int) == (0 : Int) then 
                                      (bif firstE ds == (0 : Int) then some ([AV.dat (D.bool true)], []) else some ([AV.dat (D.bool (firstI ds == (0 : Int)))], [])) else 
                                      (bif firstE ds == (0 : Int) then some ([AV.dat (D.bool true)], []) else some ([AV.dat (D.bool false)], []))) else 
                                     (bif (↑(List.length (addL ds x)) : Int) == (0 : Int) then 
                                      (bif firstE ds == (0 : Int) then some ([AV.dat (D.bool true)], []) else none) else 
                                      (bif firstE ds == (0 : Int) then some ([AV.dat (D.bool true)], []) else some ([AV.dat (D.bool false)], [])))) else 
                                    (bif firstE ds == (0 : Int) then some ([AV.dat (D.bool true)], []) else none)) else none) else 
                                  (bif (false != (hasB ds i == false)) == true then 
                                   (bif (firstE ds == (0 : Int)) == false then 
                                    (bif ((↑(List.length (addL ds x)) : Int) == (0 : Int)) == true then 
                                     (bif (↑(List.length (addL ds x)) : Int) == (0 : Int) then 
                                      (bif firstE ds == (0 : Int) then some ([AV.dat (D.bool true)], []) else some ([AV.dat (D.bool (firstI ds == (0 : Int)))], [])) else 
                                      (bif firstE ds == (0 : Int) then some ([AV.dat (D.bool true)], []) else some ([AV.dat (D.bool false)], []))) else 
                                     (bif (↑(List.length (addL ds x)) : Int) == (0 : Int) then 
                                      (bif firstE ds == (0 : Int) then some ([AV.dat (D.bool true)], []) else none) else 
                                      (bif firstE ds == (0 : Int) then some ([AV.dat (D.bool true)], []) else some ([AV.dat (D.bool false)], [])))) else 
                                    (bif firstE ds == (0 : Int) then some ([AV.dat (D.bool true)], []) else none)) else none)) else none) else none) else none) else 
                              (bif decide (i < (↑(List.length ds) : Int)) then none else 
                               (bif (false != (hasB ds i == false)) == true then 
                                (bif (firstE ds == (0 : Int)) == false then 
                                 (bif ((↑(List.length (addL ds x)) : Int) == (0 : Int)) == true then 
                                  (bif (↑(List.length (addL ds x)) : Int) == (0 : Int) then 
                                   (bif firstE ds == (0 : Int) then some ([AV.dat (D.bool true)], []) else some ([AV.dat (D.bool (firstI ds == (0 : Int)))], [])) else 
                                   (bif firstE ds == (0 : Int) then some ([AV.dat (D.bool true)], []) else some ([AV.dat (D.bool false)], []))) else 
                                  (bif (↑(List.length (addL ds x)) : Int) == (0 : Int) then 
                                   (bif firstE ds == (0 : Int) then some ([AV.dat (D.bool true)], []) else none) else 
                                   (bif firstE ds == (0 : Int) then some ([AV.dat (D.bool true)], []) else some ([AV.dat (D.bool false)], [])))) else 
                                 (bif firstE ds == (0 : Int) then some ([AV.dat (D.bool true)], []) else none)) else none))) else 
                             (bif (false != (hasB ds i == false)) == true then 
                              (bif (firstE ds == (0 : Int)) == false then 
                               (bif ((↑(List.length (addL ds x)) : Int) == (0 : Int)) == true then 
                                (bif (↑(List.length (addL ds x)) : Int) == (0 : Int) then 
                                 (bif firstE ds == (0 : Int) then some ([AV.dat (D.bool true)], []) else some ([AV.dat (D.bool (firstI ds == (0 : Int)))], [])) else 
                                 (bif firstE ds == (0 : Int) then some ([AV.dat (D.bool true)], []) else some ([AV.dat (D.bool false)], []))) else 
                                (bif (↑(List.length (addL ds x)) : Int) == (0 : Int) then 
                                 (bif firstE ds == (0 : Int) then some ([AV.dat (D.bool true)], []) else none) else 
                                 (bif firstE ds == (0 : Int) then some ([AV.dat (D.bool true)], []) else some ([AV.dat (D.bool false)], [])))) else 
                               (bif firstE ds == (0 : Int) then some ([AV.dat (D.bool true)], []) else none)) else none)) else 
                            (bif decide (i ≥ (0 : Int)) then none else 
                             (bif (false != (hasB ds i == false)) == true then 
                              (bif (firstE ds == (0 : Int)) == false then 
                               (bif ((↑(List.length (addL ds x)) : Int) == (0 : Int)) == true then 
                                (bif (↑(List.length (addL ds x)) : Int) == (0 : Int) then 
                                 (bif firstE ds == (0 : Int) then some ([AV.dat (D.bool true)], []) else some ([AV.dat (D.bool (firstI ds == (0 : Int)))], [])) else 
                                 (bif firstE ds == (0 : Int) then some ([AV.dat (D.bool true)], []) else some ([AV.dat (D.bool false)], []))) else 
                                (bif (↑(List.length (addL ds x)) : Int) == (0 : Int) then 
                                 (bif firstE ds == (0 : Int) then some ([AV.dat (D.bool true)], []) else none) else 
                                 (bif firstE ds == (0 : Int) then some ([AV.dat (D.bool true)], []) else some ([AV.dat (D.bool false)], [])))) else 
                               (bif firstE ds == (0 : Int) then some ([AV.dat (D.bool true)], []) else none)) else none))) else none) else none) else none) else none) else none) else none) else none) else none) else none) else none) else none) else none) else 
               (bif okL ds then 
                (bif okL ds then 
                 (bif okL (slotsTo ds (List.length ds)) && okL (slotsTo ds (List.length ds)) then 
                  (bif D.eqbL (slotsTo ds (List.length ds)) (slotsTo ds (List.length ds)) == true then 
                   (bif okL ds then 
                    (bif okL ds then 
                     (bif ((↑(List.length (slotsTo ds (List.length ds))) : Int) == (↑(List.length (slotsTo ds (List.length ds))) : Int)) == true then 
                      (bif okL ds then 
                       (bif decide (i ≥ (0 : Int)) == true then 
                        (bif decide (i ≥ (0 : Int)) then 
                         (bif decide (i < (↑(List.length ds) : Int)) == true then 
                          (bif decide ((0 : Int) ≤ i) then 
                           (bif decide (Int.toNat i < List.length ds) then 
                            (bif okE (Ek.int IntKind.i64) (nthD ds (Int.toNat i)) then 
                             (bif decide (i < (↑(List.length ds) : Int)) then 
                              (bif (false != (hasB ds i == (D.getI (nthD ds (Int.toNat i)) != (0 : Int)))) == true then 
                               (bif (firstE ds == (0 : Int)) == false then 
                                (bif ((↑(List.length (addL ds x)) : Int) == (0 : Int)) == true then 
                                 (bif (↑(List.length (addL ds x)) : Int) == (0 : Int) then 
                                  (bif firstE ds == (0 : Int) then some ([AV.dat (D.bool true)], []) else some ([AV.dat (D.bool (firstI ds == (0 : Int)))], [])) else 
                                  (bif firstE ds == (0 : Int) then some ([AV.dat (D.bool true)], []) else some ([AV.dat (D.bool false)], []))) else 
                                 (bif (↑(List.length (addL ds x)) : Int) == (0 : Int) then 
                                  (bif firstE ds == (0 : Int) then some ([AV.dat (D.bool true)], []) else none) else 
                                  (bif firstE ds == (0 : Int) then some ([AV.dat (D.bool true)], []) else some ([AV.dat (D.bool false)], [])))) else 
                                (bif firstE ds == (0 : Int) then some ([AV.dat (D.bool true)], []) else none)) else none) else 
                              (bif (false != (hasB ds i == false)) == true then 
                               (bif (firstE ds == (0 : Int)) == false then 
                                (bif ((↑(List.length (addL ds x)) : Int) == (0 : Int)) == true then 
                                 (bif (↑(List.length (addL ds x)) : Int) == (0 : Int) then 
                                  (bif firstE ds == (0 : Int) then some ([AV.dat (D.bool true)], []) else some ([AV.dat (D.bool (firstI ds == (0 : Int)))], [])) else 
                                  (bif firstE ds == (0 : Int) then some ([AV.dat (D.bool true)], []) else some ([AV.dat (D.bool false)], []))) else 
                                 (bif (↑(List.length (addL ds x)) : Int) == (0 : Int) then 
                                  (bif firstE ds == (0 : Int) then some ([AV.dat (D.bool true)], []) else none) else 
                                  (bif firstE ds == (0 : Int) then some ([AV.dat (D.bool true)], []) else some ([AV.dat (D.bool false)], [])))) else 
                                (bif firstE ds == (0 : Int) then some ([AV.dat (D.bool true)], []) else none)) else none)) else none) else none) else none) else 
                          (bif decide (i < (↑(List.length ds) : Int)) then none else 
                           (bif (false != (hasB ds i == false)) == true then 
                            (bif (firstE ds == (0 : Int)) == false then 
                             (bif ((↑(List.length (addL ds x)) : Int) == (0 : Int)) == true then 
                              (bif (↑(List.length (addL ds x)) : Int) == (0 : Int) then 
                               (bif firstE ds == (0 : Int) then some ([AV.dat (D.bool true)], []) else some ([AV.dat (D.bool (firstI ds == (0 : Int)))], [])) else 
                               (bif firstE ds == (0 : Int) then some ([AV.dat (D.bool true)], []) else some ([AV.dat (D.bool false)], []))) else 
                              (bif (↑(List.length (addL ds x)) : Int) == (0 : Int) then 
                               (bif firstE ds == (0 : Int) then some ([AV.dat (D.bool true)], []) else none) else 
                               (bif firstE ds == (0 : Int) then some ([AV.dat (D.bool true)], []) else some ([AV.dat (D.bool false)], [])))) else 
                             (bif firstE ds == (0 : Int) then some ([AV.dat (D.bool true)], []) else none)) else none))) else 
                         (bif (false != (hasB ds i == false)) == true then 
                          (bif (firstE ds == (0 : Int)) == false then 
                           (bif ((↑(List.length (addL ds x)) : Int) == (0 : Int)) == true then 
                            (bif (↑(List.length (addL ds x)) : Int) == (0 : Int) then 
                             (bif firstE ds == (0 : Int) then some ([AV.dat (D.bool true)], []) else some ([AV.dat (D.bool (firstI ds == (0 : Int)))], [])) else 
                             (bif firstE ds == (0 : Int) then some ([AV.dat (D.bool true)], []) else some ([AV.dat (D.bool false)], []))) else 
                            (bif (↑(List.length (addL ds x)) : Int) == (0 : Int) then 
                             (bif firstE ds == (0 : Int) then some ([AV.dat (D.bool true)], []) else none) else 
                             (bif firstE ds == (0 : Int) then some ([AV.dat (D.bool true)], []) else some ([AV.dat (D.bool false)], [])))) else 
                           (bif firstE ds == (0 : Int) then some ([AV.dat (D.bool true)], []) else none)) else none)) else 
                        (bif decide (i ≥ (0 : Int)) then none else 
                         (bif (false != (hasB ds i == false)) == true then 
                          (bif (firstE ds == (0 : Int)) == false then 
                           (bif ((↑(List.length (addL ds x)) : Int) == (0 : Int)) == true then 
                            (bif (↑(List.length (addL ds x)) : Int) == (0 : Int) then 
                             (bif firstE ds == (0 : Int) then some ([AV.dat (D.bool true)], []) else some ([AV.dat (D.bool (firstI ds == (0 : Int)))], [])) else 
                             (bif firstE ds == (0 : Int) then some ([AV.dat (D.bool true)], []) else some ([AV.dat (D.bool false)], []))) else 
                            (bif (↑(List.length (addL ds x)) : Int) == (0 : Int) then 
                             (bif firstE ds == (0 : Int) then some ([AV.dat (D.bool true)], []) else none) else 
                             (bif firstE ds == (0 : Int) then some ([AV.dat (D.bool true)], []) else some ([AV.dat (D.bool false)], [])))) else 
                           (bif firstE ds == (0 : Int) then some ([AV.dat (D.bool true)], []) else none)) else none))) else none) else none) else none) else none) else none) else none) else none) else none)) else none) else none) else none) else none) else none) else none) else none) else none) else none) else none) else none) else none) := by kernel_rfl

end Go.Proofs.Ytdgphkifajcejaa
