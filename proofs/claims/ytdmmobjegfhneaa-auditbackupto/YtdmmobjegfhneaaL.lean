/- Seat 20: entries out of bytes. -/
import Derived.Test.YtdmmobjegfhneaaK
namespace Go.Proofs.Ytdmmobjegfhneaa
open Go.AX
set_option maxRecDepth 100000
set_option maxHeartbeats 2000000
theorem rea_raw (b : List D) : runF (envOf tab SpK [] [] [(888888, 4, [.cut 12])]) true Try.f14 [.dat (.slc .one b)] [] =
  (bif okRd 8 b then
   (bif decide (8 ≤ (↑(List.length b) : Int)) then
    (bif okRd 1 (List.drop 8 b) then
     (bif decide (1 ≤ (↑(List.length (List.drop 8 b)) : Int)) then
      (bif okRd 1 (List.drop 1 (List.drop 8 b)) then
       (bif decide (1 ≤ (↑(List.length (List.drop 1 (List.drop 8 b))) : Int)) then
        (bif okRd 1 (List.drop 1 (List.drop 1 (List.drop 8 b))) then
         (bif decide (1 ≤ (↑(List.length (List.drop 1 (List.drop 1 (List.drop 8 b)))) : Int)) then
          (bif okRd 1 (List.drop 1 (List.drop 1 (List.drop 1 (List.drop 8 b)))) then
           (bif decide (1 ≤ (↑(List.length (List.drop 1 (List.drop 1 (List.drop 1 (List.drop 8 b))))) : Int)) then
            (bif okRd 1 (List.drop 1 (List.drop 1 (List.drop 1 (List.drop 1 (List.drop 8 b))))) then
             (bif decide (1 ≤ (↑(List.length (List.drop 1 (List.drop 1 (List.drop 1 (List.drop 1 (List.drop 8 b)))))) : Int)) then
              (bif okRd 1 (List.drop 1 (List.drop 1 (List.drop 1 (List.drop 1 (List.drop 1 (List.drop 8 b)))))) then
               (bif decide (1 ≤ (↑(List.length (List.drop 1 (List.drop 1 (List.drop 1 (List.drop 1 (List.drop 1 (List.drop 8 b))))))) : Int)) then
                (bif okRd 8 (List.drop 1 (List.drop 1 (List.drop 1 (List.drop 1 (List.drop 1 (List.drop 1 (List.drop 8 b))))))) then
                 (bif decide (8 ≤ (↑(List.length (List.drop 1 (List.drop 1 (List.drop 1 (List.drop 1 (List.drop 1 (List.drop 1 (List.drop 8 b)))))))) : Int)) then
                  (bif okRd 8 (List.drop 8 (List.drop 1 (List.drop 1 (List.drop 1 (List.drop 1 (List.drop 1 (List.drop 1 (List.drop 8 b)))))))) then
                   (bif decide (8 ≤ (↑(List.length (List.drop 8 (List.drop 1 (List.drop 1 (List.drop 1 (List.drop 1 (List.drop 1 (List.drop 1 (List.drop 8 b))))))))) : Int)) then
                    (bif okRd 1 (List.drop 8 (List.drop 8 (List.drop 1 (List.drop 1 (List.drop 1 (List.drop 1 (List.drop 1 (List.drop 1 (List.drop 8 b))))))))) then
                     (bif decide (1 ≤ (↑(List.length (List.drop 8 (List.drop 8 (List.drop 1 (List.drop 1 (List.drop 1 (List.drop 1 (List.drop 1 (List.drop 1 (List.drop 8 b)))))))))) : Int)) then
                      (bif endd_v0 (List.drop 1 (List.drop 8 (List.drop 8 (List.drop 1 (List.drop 1 (List.drop 1 (List.drop 1 (List.drop 1 (List.drop 1 (List.drop 8 b)))))))))) 0 true == 0 then
                       (bif !may_v0 (numV (List.take 8 b)) (IntKind.wrap IntKind.i64 (numV (List.take 1 (List.drop 8 b)))) (IntKind.wrap IntKind.i64 (numV (List.take 1 (List.drop 1 (List.drop 8 b))))) (IntKind.wrap IntKind.i64 (numV (List.take 1 (List.drop 1 (List.drop 1 (List.drop 8 b)))))) (IntKind.wrap IntKind.i64 (numV (List.take 1 (List.drop 1 (List.drop 1 (List.drop 1 (List.drop 8 b))))))) (IntKind.wrap IntKind.i64 (numV (List.take 1 (List.drop 1 (List.drop 1 (List.drop 1 (List.drop 1 (List.drop 8 b)))))))) (IntKind.wrap IntKind.i64 (numV (List.take 1 (List.drop 1 (List.drop 1 (List.drop 1 (List.drop 1 (List.drop 1 (List.drop 8 b))))))))) (numV (List.take 8 (List.drop 1 (List.drop 1 (List.drop 1 (List.drop 1 (List.drop 1 (List.drop 1 (List.drop 8 b))))))))) (numV (List.take 8 (List.drop 8 (List.drop 1 (List.drop 1 (List.drop 1 (List.drop 1 (List.drop 1 (List.drop 1 (List.drop 8 b)))))))))) (IntKind.wrap IntKind.i64 (numV (List.take 1 (List.drop 8 (List.drop 8 (List.drop 1 (List.drop 1 (List.drop 1 (List.drop 1 (List.drop 1 (List.drop 1 (List.drop 8 b)))))))))))) then some ([.dat (.agg [D.int IntKind.u64 0, D.int .i64 0, D.int .i64 0, D.int .i64 0, D.int .i64 0, D.int .i64 0, D.int .i64 0, D.int IntKind.u64 0, D.int IntKind.u64 0, D.int .i64 0]), .dat (.int .i64 2)], []) else
                        (bif endd_v0 (List.drop 1 (List.drop 8 (List.drop 8 (List.drop 1 (List.drop 1 (List.drop 1 (List.drop 1 (List.drop 1 (List.drop 1 (List.drop 8 b)))))))))) 0 true != 0 then some ([.dat (.agg [D.int IntKind.u64 0, D.int .i64 0, D.int .i64 0, D.int .i64 0, D.int .i64 0, D.int .i64 0, D.int .i64 0, D.int IntKind.u64 0, D.int IntKind.u64 0, D.int .i64 0]), .dat (.int .i64 (endd_v0 (List.drop 1 (List.drop 8 (List.drop 8 (List.drop 1 (List.drop 1 (List.drop 1 (List.drop 1 (List.drop 1 (List.drop 1 (List.drop 8 b)))))))))) 0 true))], []) else some ([.dat (.agg [D.int IntKind.u64 (numV (List.take 8 b)), D.int .i64 (IntKind.wrap IntKind.i64 (numV (List.take 1 (List.drop 8 b)))), D.int .i64 (IntKind.wrap IntKind.i64 (numV (List.take 1 (List.drop 1 (List.drop 8 b))))), D.int .i64 (IntKind.wrap IntKind.i64 (numV (List.take 1 (List.drop 1 (List.drop 1 (List.drop 8 b)))))), D.int .i64 (IntKind.wrap IntKind.i64 (numV (List.take 1 (List.drop 1 (List.drop 1 (List.drop 1 (List.drop 8 b))))))), D.int .i64 (IntKind.wrap IntKind.i64 (numV (List.take 1 (List.drop 1 (List.drop 1 (List.drop 1 (List.drop 1 (List.drop 8 b)))))))), D.int .i64 (IntKind.wrap IntKind.i64 (numV (List.take 1 (List.drop 1 (List.drop 1 (List.drop 1 (List.drop 1 (List.drop 1 (List.drop 8 b))))))))), D.int IntKind.u64 (numV (List.take 8 (List.drop 1 (List.drop 1 (List.drop 1 (List.drop 1 (List.drop 1 (List.drop 1 (List.drop 8 b))))))))), D.int IntKind.u64 (numV (List.take 8 (List.drop 8 (List.drop 1 (List.drop 1 (List.drop 1 (List.drop 1 (List.drop 1 (List.drop 1 (List.drop 8 b)))))))))), D.int .i64 (IntKind.wrap IntKind.i64 (numV (List.take 1 (List.drop 8 (List.drop 8 (List.drop 1 (List.drop 1 (List.drop 1 (List.drop 1 (List.drop 1 (List.drop 1 (List.drop 8 b))))))))))))]), .dat (.int .i64 0)], []))) else
                       (bif endd_v0 (List.drop 1 (List.drop 8 (List.drop 8 (List.drop 1 (List.drop 1 (List.drop 1 (List.drop 1 (List.drop 1 (List.drop 1 (List.drop 8 b)))))))))) 0 true != 0 then some ([.dat (.agg [D.int IntKind.u64 0, D.int .i64 0, D.int .i64 0, D.int .i64 0, D.int .i64 0, D.int .i64 0, D.int .i64 0, D.int IntKind.u64 0, D.int IntKind.u64 0, D.int .i64 0]), .dat (.int .i64 (endd_v0 (List.drop 1 (List.drop 8 (List.drop 8 (List.drop 1 (List.drop 1 (List.drop 1 (List.drop 1 (List.drop 1 (List.drop 1 (List.drop 8 b)))))))))) 0 true))], []) else some ([.dat (.agg [D.int IntKind.u64 (numV (List.take 8 b)), D.int .i64 (IntKind.wrap IntKind.i64 (numV (List.take 1 (List.drop 8 b)))), D.int .i64 (IntKind.wrap IntKind.i64 (numV (List.take 1 (List.drop 1 (List.drop 8 b))))), D.int .i64 (IntKind.wrap IntKind.i64 (numV (List.take 1 (List.drop 1 (List.drop 1 (List.drop 8 b)))))), D.int .i64 (IntKind.wrap IntKind.i64 (numV (List.take 1 (List.drop 1 (List.drop 1 (List.drop 1 (List.drop 8 b))))))), D.int .i64 (IntKind.wrap IntKind.i64 (numV (List.take 1 (List.drop 1 (List.drop 1 (List.drop 1 (List.drop 1 (List.drop 8 b)))))))), D.int .i64 (IntKind.wrap IntKind.i64 (numV (List.take 1 (List.drop 1 (List.drop 1 (List.drop 1 (List.drop 1 (List.drop 1 (List.drop 8 b))))))))), D.int IntKind.u64 (numV (List.take 8 (List.drop 1 (List.drop 1 (List.drop 1 (List.drop 1 (List.drop 1 (List.drop 1 (List.drop 8 b))))))))), D.int IntKind.u64 (numV (List.take 8 (List.drop 8 (List.drop 1 (List.drop 1 (List.drop 1 (List.drop 1 (List.drop 1 (List.drop 1 (List.drop 8 b)))))))))), D.int .i64 (IntKind.wrap IntKind.i64 (numV (List.take 1 (List.drop 8 (List.drop 8 (List.drop 1 (List.drop 1 (List.drop 1 (List.drop 1 (List.drop 1 (List.drop 1 (List.drop 8 b))))))))))))]), .dat (.int .i64 0)], []))) else some ([.dat (.agg [D.int IntKind.u64 0, D.int .i64 0, D.int .i64 0, D.int .i64 0, D.int .i64 0, D.int .i64 0, D.int .i64 0, D.int IntKind.u64 0, D.int IntKind.u64 0, D.int .i64 0]), .dat (.int .i64 (endd_v0 (List.drop 8 (List.drop 8 (List.drop 1 (List.drop 1 (List.drop 1 (List.drop 1 (List.drop 1 (List.drop 1 (List.drop 8 b))))))))) 12 true))], [])) else none) else
                    (bif okRd 1 (List.drop 8 (List.drop 1 (List.drop 1 (List.drop 1 (List.drop 1 (List.drop 1 (List.drop 1 (List.drop 8 b)))))))) then some ([.dat (.agg [D.int IntKind.u64 0, D.int .i64 0, D.int .i64 0, D.int .i64 0, D.int .i64 0, D.int .i64 0, D.int .i64 0, D.int IntKind.u64 0, D.int IntKind.u64 0, D.int .i64 0]), .dat (.int .i64 (endd_v0 (List.drop 8 (List.drop 1 (List.drop 1 (List.drop 1 (List.drop 1 (List.drop 1 (List.drop 1 (List.drop 8 b)))))))) 12 true))], []) else none)) else none) else
                  (bif okRd 8 (List.drop 1 (List.drop 1 (List.drop 1 (List.drop 1 (List.drop 1 (List.drop 1 (List.drop 8 b))))))) then
                   (bif okRd 1 (List.drop 1 (List.drop 1 (List.drop 1 (List.drop 1 (List.drop 1 (List.drop 1 (List.drop 8 b))))))) then some ([.dat (.agg [D.int IntKind.u64 0, D.int .i64 0, D.int .i64 0, D.int .i64 0, D.int .i64 0, D.int .i64 0, D.int .i64 0, D.int IntKind.u64 0, D.int IntKind.u64 0, D.int .i64 0]), .dat (.int .i64 (endd_v0 (List.drop 1 (List.drop 1 (List.drop 1 (List.drop 1 (List.drop 1 (List.drop 1 (List.drop 8 b))))))) 12 true))], []) else none) else none)) else none) else
                (bif okRd 8 (List.drop 1 (List.drop 1 (List.drop 1 (List.drop 1 (List.drop 1 (List.drop 8 b)))))) then
                 (bif okRd 8 (List.drop 1 (List.drop 1 (List.drop 1 (List.drop 1 (List.drop 1 (List.drop 8 b)))))) then
                  (bif okRd 1 (List.drop 1 (List.drop 1 (List.drop 1 (List.drop 1 (List.drop 1 (List.drop 8 b)))))) then some ([.dat (.agg [D.int IntKind.u64 0, D.int .i64 0, D.int .i64 0, D.int .i64 0, D.int .i64 0, D.int .i64 0, D.int .i64 0, D.int IntKind.u64 0, D.int IntKind.u64 0, D.int .i64 0]), .dat (.int .i64 (endd_v0 (List.drop 1 (List.drop 1 (List.drop 1 (List.drop 1 (List.drop 1 (List.drop 8 b)))))) 12 true))], []) else none) else none) else none)) else none) else
              (bif okRd 1 (List.drop 1 (List.drop 1 (List.drop 1 (List.drop 1 (List.drop 8 b))))) then
               (bif okRd 8 (List.drop 1 (List.drop 1 (List.drop 1 (List.drop 1 (List.drop 8 b))))) then
                (bif okRd 8 (List.drop 1 (List.drop 1 (List.drop 1 (List.drop 1 (List.drop 8 b))))) then
                 (bif okRd 1 (List.drop 1 (List.drop 1 (List.drop 1 (List.drop 1 (List.drop 8 b))))) then some ([.dat (.agg [D.int IntKind.u64 0, D.int .i64 0, D.int .i64 0, D.int .i64 0, D.int .i64 0, D.int .i64 0, D.int .i64 0, D.int IntKind.u64 0, D.int IntKind.u64 0, D.int .i64 0]), .dat (.int .i64 (endd_v0 (List.drop 1 (List.drop 1 (List.drop 1 (List.drop 1 (List.drop 8 b))))) 12 true))], []) else none) else none) else none) else none)) else none) else
            (bif okRd 1 (List.drop 1 (List.drop 1 (List.drop 1 (List.drop 8 b)))) then
             (bif okRd 1 (List.drop 1 (List.drop 1 (List.drop 1 (List.drop 8 b)))) then
              (bif okRd 8 (List.drop 1 (List.drop 1 (List.drop 1 (List.drop 8 b)))) then
               (bif okRd 8 (List.drop 1 (List.drop 1 (List.drop 1 (List.drop 8 b)))) then
                (bif okRd 1 (List.drop 1 (List.drop 1 (List.drop 1 (List.drop 8 b)))) then some ([.dat (.agg [D.int IntKind.u64 0, D.int .i64 0, D.int .i64 0, D.int .i64 0, D.int .i64 0, D.int .i64 0, D.int .i64 0, D.int IntKind.u64 0, D.int IntKind.u64 0, D.int .i64 0]), .dat (.int .i64 (endd_v0 (List.drop 1 (List.drop 1 (List.drop 1 (List.drop 8 b)))) 12 true))], []) else none) else none) else none) else none) else none)) else none) else
          (bif okRd 1 (List.drop 1 (List.drop 1 (List.drop 8 b))) then
           (bif okRd 1 (List.drop 1 (List.drop 1 (List.drop 8 b))) then
            (bif okRd 1 (List.drop 1 (List.drop 1 (List.drop 8 b))) then
             (bif okRd 8 (List.drop 1 (List.drop 1 (List.drop 8 b))) then
              (bif okRd 8 (List.drop 1 (List.drop 1 (List.drop 8 b))) then
               (bif okRd 1 (List.drop 1 (List.drop 1 (List.drop 8 b))) then some ([.dat (.agg [D.int IntKind.u64 0, D.int .i64 0, D.int .i64 0, D.int .i64 0, D.int .i64 0, D.int .i64 0, D.int .i64 0, D.int IntKind.u64 0, D.int IntKind.u64 0, D.int .i64 0]), .dat (.int .i64 (endd_v0 (List.drop 1 (List.drop 1 (List.drop 8 b))) 12 true))], []) else none) else none) else none) else none) else none) else none)) else none) else
        (bif okRd 1 (List.drop 1 (List.drop 8 b)) then
         (bif okRd 1 (List.drop 1 (List.drop 8 b)) then
          (bif okRd 1 (List.drop 1 (List.drop 8 b)) then
           (bif okRd 1 (List.drop 1 (List.drop 8 b)) then
            (bif okRd 8 (List.drop 1 (List.drop 8 b)) then
             (bif okRd 8 (List.drop 1 (List.drop 8 b)) then
              (bif okRd 1 (List.drop 1 (List.drop 8 b)) then some ([.dat (.agg [D.int IntKind.u64 0, D.int .i64 0, D.int .i64 0, D.int .i64 0, D.int .i64 0, D.int .i64 0, D.int .i64 0, D.int IntKind.u64 0, D.int IntKind.u64 0, D.int .i64 0]), .dat (.int .i64 (endd_v0 (List.drop 1 (List.drop 8 b)) 12 true))], []) else none) else none) else none) else none) else none) else none) else none)) else none) else
      (bif okRd 1 (List.drop 8 b) then
       (bif okRd 1 (List.drop 8 b) then
        (bif okRd 1 (List.drop 8 b) then
         (bif okRd 1 (List.drop 8 b) then
          (bif okRd 1 (List.drop 8 b) then
           (bif okRd 8 (List.drop 8 b) then
            (bif okRd 8 (List.drop 8 b) then
             (bif okRd 1 (List.drop 8 b) then some ([.dat (.agg [D.int IntKind.u64 0, D.int .i64 0, D.int .i64 0, D.int .i64 0, D.int .i64 0, D.int .i64 0, D.int .i64 0, D.int IntKind.u64 0, D.int IntKind.u64 0, D.int .i64 0]), .dat (.int .i64 (endd_v0 (List.drop 8 b) 12 true))], []) else none) else none) else none) else none) else none) else none) else none) else none)) else none) else
    (bif okRd 1 b then
     (bif okRd 1 b then
      (bif okRd 1 b then
       (bif okRd 1 b then
        (bif okRd 1 b then
         (bif okRd 1 b then
          (bif okRd 8 b then
           (bif okRd 8 b then
            (bif okRd 1 b then some ([.dat (.agg [D.int IntKind.u64 0, D.int .i64 0, D.int .i64 0, D.int .i64 0, D.int .i64 0, D.int .i64 0, D.int .i64 0, D.int IntKind.u64 0, D.int IntKind.u64 0, D.int .i64 0]), .dat (.int .i64 (endd_v0 b 12 true))], []) else none) else none) else none) else none) else none) else none) else none) else none) else none)) else none) := by kernel_rfl
theorem rrea_raw (b : List D) : runF (envOf tab SpK [] [] []) true Try.f15 [.dat (.slc .one b)] [] =
  (bif okRd 8 b && true then
   (bif decide (8 ≤ (↑(List.length b) : Int)) then
    (bif okRd 1 b && decide (8 ≤ (↑(List.length b) : Int)) then
     (bif decide (9 ≤ (↑(List.length b) : Int)) then
      (bif okRd 1 b && decide (9 ≤ (↑(List.length b) : Int)) then
       (bif decide (10 ≤ (↑(List.length b) : Int)) then
        (bif okRd 1 b && decide (10 ≤ (↑(List.length b) : Int)) then
         (bif decide (11 ≤ (↑(List.length b) : Int)) then
          (bif okRd 1 b && decide (11 ≤ (↑(List.length b) : Int)) then
           (bif decide (12 ≤ (↑(List.length b) : Int)) then
            (bif okRd 1 b && decide (12 ≤ (↑(List.length b) : Int)) then
             (bif decide (13 ≤ (↑(List.length b) : Int)) then
              (bif okRd 1 b && decide (13 ≤ (↑(List.length b) : Int)) then
               (bif decide (14 ≤ (↑(List.length b) : Int)) then
                (bif okRd 8 b && decide (14 ≤ (↑(List.length b) : Int)) then
                 (bif decide (22 ≤ (↑(List.length b) : Int)) then
                  (bif okRd 8 b && decide (22 ≤ (↑(List.length b) : Int)) then
                   (bif decide (30 ≤ (↑(List.length b) : Int)) then
                    (bif okRd 1 b && decide (30 ≤ (↑(List.length b) : Int)) then
                     (bif decide (31 ≤ (↑(List.length b) : Int)) then
                      (bif rend_v0 b 31 0 != 0 then some ([.dat (.agg [D.int IntKind.u64 0, D.int .i64 0, D.int .i64 0, D.int .i64 0, D.int .i64 0, D.int .i64 0, D.int .i64 0, D.int IntKind.u64 0, D.int IntKind.u64 0, D.int .i64 0]), .dat (.int .i64 (rend_v0 b 31 0))], []) else
                       (bif rmay_pre (numV (List.take 8 b)) (IntKind.wrap IntKind.i64 (numV (List.take 1 (List.drop 8 b)))) (IntKind.wrap IntKind.i64 (numV (List.take 1 (List.drop 9 b)))) (IntKind.wrap IntKind.i64 (numV (List.take 1 (List.drop 10 b)))) (IntKind.wrap IntKind.i64 (numV (List.take 1 (List.drop 11 b)))) (numV (List.take 8 (List.drop 14 b))) (numV (List.take 8 (List.drop 22 b))) then
                        (bif !rmay_v0 (numV (List.take 8 b)) (IntKind.wrap IntKind.i64 (numV (List.take 1 (List.drop 8 b)))) (IntKind.wrap IntKind.i64 (numV (List.take 1 (List.drop 9 b)))) (IntKind.wrap IntKind.i64 (numV (List.take 1 (List.drop 10 b)))) (IntKind.wrap IntKind.i64 (numV (List.take 1 (List.drop 11 b)))) (IntKind.wrap IntKind.i64 (numV (List.take 1 (List.drop 12 b)))) (IntKind.wrap IntKind.i64 (numV (List.take 1 (List.drop 13 b)))) (numV (List.take 8 (List.drop 14 b))) (numV (List.take 8 (List.drop 22 b))) (IntKind.wrap IntKind.i64 (numV (List.take 1 (List.drop 30 b)))) then some ([.dat (.agg [D.int IntKind.u64 0, D.int .i64 0, D.int .i64 0, D.int .i64 0, D.int .i64 0, D.int .i64 0, D.int .i64 0, D.int IntKind.u64 0, D.int IntKind.u64 0, D.int .i64 0]), .dat (.int .i64 2)], []) else some ([.dat (.agg [D.int IntKind.u64 (numV (List.take 8 b)), D.int .i64 (IntKind.wrap IntKind.i64 (numV (List.take 1 (List.drop 8 b)))), D.int .i64 (IntKind.wrap IntKind.i64 (numV (List.take 1 (List.drop 9 b)))), D.int .i64 (IntKind.wrap IntKind.i64 (numV (List.take 1 (List.drop 10 b)))), D.int .i64 (IntKind.wrap IntKind.i64 (numV (List.take 1 (List.drop 11 b)))), D.int .i64 (IntKind.wrap IntKind.i64 (numV (List.take 1 (List.drop 12 b)))), D.int .i64 (IntKind.wrap IntKind.i64 (numV (List.take 1 (List.drop 13 b)))), D.int IntKind.u64 (numV (List.take 8 (List.drop 14 b))), D.int IntKind.u64 (numV (List.take 8 (List.drop 22 b))), D.int .i64 (IntKind.wrap IntKind.i64 (numV (List.take 1 (List.drop 30 b))))]), .dat (.int .i64 0)], [])) else none)) else some ([.dat (.agg [D.int IntKind.u64 0, D.int .i64 0, D.int .i64 0, D.int .i64 0, D.int .i64 0, D.int .i64 0, D.int .i64 0, D.int IntKind.u64 0, D.int IntKind.u64 0, D.int .i64 0]), .dat (.int .i64 (rend_v0 b 30 12))], [])) else none) else
                    (bif okRd 1 b && decide (22 ≤ (↑(List.length b) : Int)) then some ([.dat (.agg [D.int IntKind.u64 0, D.int .i64 0, D.int .i64 0, D.int .i64 0, D.int .i64 0, D.int .i64 0, D.int .i64 0, D.int IntKind.u64 0, D.int IntKind.u64 0, D.int .i64 0]), .dat (.int .i64 (rend_v0 b 22 12))], []) else none)) else none) else
                  (bif okRd 8 b && decide (14 ≤ (↑(List.length b) : Int)) then
                   (bif okRd 1 b && decide (14 ≤ (↑(List.length b) : Int)) then some ([.dat (.agg [D.int IntKind.u64 0, D.int .i64 0, D.int .i64 0, D.int .i64 0, D.int .i64 0, D.int .i64 0, D.int .i64 0, D.int IntKind.u64 0, D.int IntKind.u64 0, D.int .i64 0]), .dat (.int .i64 (rend_v0 b 14 12))], []) else none) else none)) else none) else
                (bif okRd 8 b && decide (13 ≤ (↑(List.length b) : Int)) then
                 (bif okRd 8 b && decide (13 ≤ (↑(List.length b) : Int)) then
                  (bif okRd 1 b && decide (13 ≤ (↑(List.length b) : Int)) then some ([.dat (.agg [D.int IntKind.u64 0, D.int .i64 0, D.int .i64 0, D.int .i64 0, D.int .i64 0, D.int .i64 0, D.int .i64 0, D.int IntKind.u64 0, D.int IntKind.u64 0, D.int .i64 0]), .dat (.int .i64 (rend_v0 b 13 12))], []) else none) else none) else none)) else none) else
              (bif okRd 1 b && decide (12 ≤ (↑(List.length b) : Int)) then
               (bif okRd 8 b && decide (12 ≤ (↑(List.length b) : Int)) then
                (bif okRd 8 b && decide (12 ≤ (↑(List.length b) : Int)) then
                 (bif okRd 1 b && decide (12 ≤ (↑(List.length b) : Int)) then some ([.dat (.agg [D.int IntKind.u64 0, D.int .i64 0, D.int .i64 0, D.int .i64 0, D.int .i64 0, D.int .i64 0, D.int .i64 0, D.int IntKind.u64 0, D.int IntKind.u64 0, D.int .i64 0]), .dat (.int .i64 (rend_v0 b 12 12))], []) else none) else none) else none) else none)) else none) else
            (bif okRd 1 b && decide (11 ≤ (↑(List.length b) : Int)) then
             (bif okRd 1 b && decide (11 ≤ (↑(List.length b) : Int)) then
              (bif okRd 8 b && decide (11 ≤ (↑(List.length b) : Int)) then
               (bif okRd 8 b && decide (11 ≤ (↑(List.length b) : Int)) then
                (bif okRd 1 b && decide (11 ≤ (↑(List.length b) : Int)) then some ([.dat (.agg [D.int IntKind.u64 0, D.int .i64 0, D.int .i64 0, D.int .i64 0, D.int .i64 0, D.int .i64 0, D.int .i64 0, D.int IntKind.u64 0, D.int IntKind.u64 0, D.int .i64 0]), .dat (.int .i64 (rend_v0 b 11 12))], []) else none) else none) else none) else none) else none)) else none) else
          (bif okRd 1 b && decide (10 ≤ (↑(List.length b) : Int)) then
           (bif okRd 1 b && decide (10 ≤ (↑(List.length b) : Int)) then
            (bif okRd 1 b && decide (10 ≤ (↑(List.length b) : Int)) then
             (bif okRd 8 b && decide (10 ≤ (↑(List.length b) : Int)) then
              (bif okRd 8 b && decide (10 ≤ (↑(List.length b) : Int)) then
               (bif okRd 1 b && decide (10 ≤ (↑(List.length b) : Int)) then some ([.dat (.agg [D.int IntKind.u64 0, D.int .i64 0, D.int .i64 0, D.int .i64 0, D.int .i64 0, D.int .i64 0, D.int .i64 0, D.int IntKind.u64 0, D.int IntKind.u64 0, D.int .i64 0]), .dat (.int .i64 (rend_v0 b 10 12))], []) else none) else none) else none) else none) else none) else none)) else none) else
        (bif okRd 1 b && decide (9 ≤ (↑(List.length b) : Int)) then
         (bif okRd 1 b && decide (9 ≤ (↑(List.length b) : Int)) then
          (bif okRd 1 b && decide (9 ≤ (↑(List.length b) : Int)) then
           (bif okRd 1 b && decide (9 ≤ (↑(List.length b) : Int)) then
            (bif okRd 8 b && decide (9 ≤ (↑(List.length b) : Int)) then
             (bif okRd 8 b && decide (9 ≤ (↑(List.length b) : Int)) then
              (bif okRd 1 b && decide (9 ≤ (↑(List.length b) : Int)) then some ([.dat (.agg [D.int IntKind.u64 0, D.int .i64 0, D.int .i64 0, D.int .i64 0, D.int .i64 0, D.int .i64 0, D.int .i64 0, D.int IntKind.u64 0, D.int IntKind.u64 0, D.int .i64 0]), .dat (.int .i64 (rend_v0 b 9 12))], []) else none) else none) else none) else none) else none) else none) else none)) else none) else
      (bif okRd 1 b && decide (8 ≤ (↑(List.length b) : Int)) then
       (bif okRd 1 b && decide (8 ≤ (↑(List.length b) : Int)) then
        (bif okRd 1 b && decide (8 ≤ (↑(List.length b) : Int)) then
         (bif okRd 1 b && decide (8 ≤ (↑(List.length b) : Int)) then
          (bif okRd 1 b && decide (8 ≤ (↑(List.length b) : Int)) then
           (bif okRd 8 b && decide (8 ≤ (↑(List.length b) : Int)) then
            (bif okRd 8 b && decide (8 ≤ (↑(List.length b) : Int)) then
             (bif okRd 1 b && decide (8 ≤ (↑(List.length b) : Int)) then some ([.dat (.agg [D.int IntKind.u64 0, D.int .i64 0, D.int .i64 0, D.int .i64 0, D.int .i64 0, D.int .i64 0, D.int .i64 0, D.int IntKind.u64 0, D.int IntKind.u64 0, D.int .i64 0]), .dat (.int .i64 (rend_v0 b 8 12))], []) else none) else none) else none) else none) else none) else none) else none) else none)) else none) else
    (bif okRd 1 b && true then
     (bif okRd 1 b && true then
      (bif okRd 1 b && true then
       (bif okRd 1 b && true then
        (bif okRd 1 b && true then
         (bif okRd 1 b && true then
          (bif okRd 8 b && true then
           (bif okRd 8 b && true then
            (bif okRd 1 b && true then some ([.dat (.agg [D.int IntKind.u64 0, D.int .i64 0, D.int .i64 0, D.int .i64 0, D.int .i64 0, D.int .i64 0, D.int .i64 0, D.int IntKind.u64 0, D.int IntKind.u64 0, D.int .i64 0]), .dat (.int .i64 (rend_v0 b 0 12))], []) else none) else none) else none) else none) else none) else none) else none) else none) else none)) else none) := by kernel_rfl
end Go.Proofs.Ytdmmobjegfhneaa
