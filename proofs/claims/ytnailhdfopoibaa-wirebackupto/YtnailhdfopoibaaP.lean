/- Seat 02: WireBack. -/
import Derived.Test.YtnailhdfopoibaaN
namespace Go.Proofs.Ytnailhdfopoibaa
open Go.AX
set_option maxRecDepth 100000

theorem back_run (ls : List D) (cut : Int) : runF E5 true Try.f5 [.dat (.slc (.agg [.one, .one, .one]) ls), .dat (.int .i64 cut)] [] =
  (bif okLP ls then 
   (bif anyBad ls then some ([AV.dat (D.bool true)], []) else 
    (bif decide (cut ≥ (0 : Int)) == true then 
     (bif decide (cut ≥ (0 : Int)) then 
      (bif decide (cut < (↑(List.length (encTo ls (few ls))) : Int)) then 
       (bif decide ((0 : Int) ≤ cut) then 
        (bif decide (Int.toNat cut ≤ List.length (encTo ls (few ls))) then 
         (bif decide ((↑(few ls) : Int) = (↑(few ls) : Int)) && okB5 ls (encTo ls (few ls)) (seg (encTo ls (few ls)) (0 : Nat) (Int.toNat cut - (0 : Nat))) then 
          (bif decide (cut < (0 : Int)) == false then 
           (bif decide (cut < (0 : Int)) then some ([AV.dat (D.bool true)], []) else 
            (bif decide (cut ≥ (↑(List.length (encTo ls (few ls))) : Int)) == false then 
             (bif decide (cut ≥ (↑(List.length (encTo ls (few ls))) : Int)) then some ([AV.dat (D.bool true)], []) else some ([AV.dat (D.bool (Sc.fault (scanTo ls (few ls) (mk (seg (encTo ls (few ls)) (0 : Nat) (Int.toNat cut - (0 : Nat))))) == (12 : Int)))], [])) else 
             (bif decide (cut ≥ (↑(List.length (encTo ls (few ls))) : Int)) then some ([AV.dat (D.bool true)], []) else none))) else 
           (bif decide (cut < (0 : Int)) then some ([AV.dat (D.bool true)], []) else none)) else none) else none) else none) else 
       (bif decide ((↑(few ls) : Int) = (↑(few ls) : Int)) && okB5 ls (encTo ls (few ls)) (encTo ls (few ls)) then 
        (bif decide (cut < (0 : Int)) == false then 
         (bif decide (cut < (0 : Int)) then some ([AV.dat (D.bool true)], []) else 
          (bif decide (cut ≥ (↑(List.length (encTo ls (few ls))) : Int)) == false then 
           (bif decide (cut ≥ (↑(List.length (encTo ls (few ls))) : Int)) then some ([AV.dat (D.bool true)], []) else some ([AV.dat (D.bool (Sc.fault (scanTo ls (few ls) (mk (encTo ls (few ls)))) == (12 : Int)))], [])) else 
           (bif decide (cut ≥ (↑(List.length (encTo ls (few ls))) : Int)) then some ([AV.dat (D.bool true)], []) else none))) else 
         (bif decide (cut < (0 : Int)) then some ([AV.dat (D.bool true)], []) else none)) else none)) else 
      (bif decide ((↑(few ls) : Int) = (↑(few ls) : Int)) && okB5 ls (encTo ls (few ls)) (encTo ls (few ls)) then 
       (bif decide (cut < (0 : Int)) == false then 
        (bif decide (cut < (0 : Int)) then some ([AV.dat (D.bool true)], []) else 
         (bif decide (cut ≥ (↑(List.length (encTo ls (few ls))) : Int)) == false then 
          (bif decide (cut ≥ (↑(List.length (encTo ls (few ls))) : Int)) then some ([AV.dat (D.bool true)], []) else some ([AV.dat (D.bool (Sc.fault (scanTo ls (few ls) (mk (encTo ls (few ls)))) == (12 : Int)))], [])) else 
          (bif decide (cut ≥ (↑(List.length (encTo ls (few ls))) : Int)) then some ([AV.dat (D.bool true)], []) else none))) else 
        (bif decide (cut < (0 : Int)) then some ([AV.dat (D.bool true)], []) else none)) else none)) else 
     (bif decide (cut ≥ (0 : Int)) then none else 
      (bif decide ((↑(few ls) : Int) = (↑(few ls) : Int)) && okB5 ls (encTo ls (few ls)) (encTo ls (few ls)) then 
       (bif decide (cut < (0 : Int)) == false then 
        (bif decide (cut < (0 : Int)) then some ([AV.dat (D.bool true)], []) else 
         (bif decide (cut ≥ (↑(List.length (encTo ls (few ls))) : Int)) == false then 
          (bif decide (cut ≥ (↑(List.length (encTo ls (few ls))) : Int)) then some ([AV.dat (D.bool true)], []) else some ([AV.dat (D.bool (Sc.fault (scanTo ls (few ls) (mk (encTo ls (few ls)))) == (12 : Int)))], [])) else 
          (bif decide (cut ≥ (↑(List.length (encTo ls (few ls))) : Int)) then some ([AV.dat (D.bool true)], []) else none))) else 
        (bif decide (cut < (0 : Int)) then some ([AV.dat (D.bool true)], []) else none)) else none)))) else none) := by kernel_rfl

end Go.Proofs.Ytnailhdfopoibaa
