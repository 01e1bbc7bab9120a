/- Seat 08: SectorTells. -/
import Derived.Test.YtfajnpnmghbdpaaI
namespace Go.Proofs.Ytfajnpnmghbdpaa
open Go.AX
set_option maxRecDepth 100000

def C_alive : FunT := fun args σ => match args, σ with
  | [], [] => .leaf ([.dat (.bool true)], [])
  | _, _ => .fail
theorem alive_ok : FunOk Try.prog 6 (FunT.run C_alive) := by
  refine fun_ok (E := envOf tab Sq [] [] []) (fz := true) (fn := Try.f6) (envOf_ok progOk Sq_ok) (by kernel_rfl) (by kernel_rfl) (loops_none (by kernel_rfl)) ?_
  intro args σ r h
  unfold C_alive at h
  split at h
  · exact alive_run.trans h
  · simp [T.run_fail] at h
abbrev Sr : Specs := (6, C_alive) :: Sq
theorem Sr_ok : SpecsOk Try.prog Sr := .cons alive_ok Sq_ok

abbrev H3 : Hints := [(999999, 50, [.is 50 (aBool true)]), (999999, 56, [.is 56 (aBool true)]), (999999, 61, [.is 61 (aBool true)]), (999999, 66, [.is 66 (aBool true)]), (999999, 73, [.is 73 (aBool true)]), (999999, 78, [.is 78 (aBool true)])]
theorem tells_run (n : Int) (ds bs : List D) : runF (envOf tab Sr [] [] H3) true Try.f3 [.dat (.int .u64 n), .dat (.slc .one ds), .dat (.slc .one bs)] [] =
  (bif decide ((↑(List.length ds) : Int) > (1000 : Int)) == false then 
   (bif decide ((↑(List.length ds) : Int) > (1000 : Int)) then some ([AV.dat (D.bool true)], []) else 
    (bif decide ((↑(List.length bs) : Int) > (1000 : Int)) then some ([AV.dat (D.bool true)], []) else 
     (bif okY ds && decide ((0 : Int) ≤ n) then 
      (bif okY ds && decide (IntKind.wrap IntKind.u64 n = n) then 
       (bif okY bs then 
        (bif okY bs then 
         (bif isBytes (sealR n ds) then 
          (bif isBytes (sealR n ds) then 
           (bif D.eqb (D.bool (decide (byteVs (sealR n ds) = byteVs (sealR n ds)))) (D.bool true) then 
            (bif D.eqb (D.bool (errS n ds == errS n ds)) (D.bool true) then 
             (bif D.eqb (D.bool (openN bs == openN bs)) (D.bool true) then 
              (bif isBytes (openL bs) then 
               (bif isBytes (openL bs) then 
                (bif D.eqb (D.bool (decide (byteVs (openL bs) = byteVs (openL bs)))) (D.bool true) then 
                 (bif D.eqb (D.bool (openE bs == openE bs)) (D.bool true) then some ([AV.dat (D.bool true)], []) else none) else none) else none) else none) else none) else none) else none) else none) else none) else none) else none) else none) else none))) else 
   (bif decide ((↑(List.length ds) : Int) > (1000 : Int)) then some ([AV.dat (D.bool true)], []) else none)) := by kernel_rfl

end Go.Proofs.Ytfajnpnmghbdpaa
