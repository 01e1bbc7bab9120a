/- Seat 08: SectorBack. -/
import Derived.Test.YtfajnpnmghbdpaaQ
namespace Go.Proofs.Ytfajnpnmghbdpaa
open Go.AX
set_option maxRecDepth 100000

abbrev E4 : Env := envOf tab Sr [] [(8, L_fill), (16, L_flip)] H4
theorem back_run (n at_ turn : Int) (ds : List D) : runF E4 true Try.f4 [.dat (.int .u64 n), .dat (.slc .one ds), .dat (.int .i64 at_), .dat (.int .u32 turn)] [] =
  (bif okY ds && decide ((0 : Int) ≤ n) then 
   (bif errS n ds != (0 : Int) then 
    (bif D.eqb (D.bool ((↑(List.length (sealR n ds)) : Int) == (0 : Int))) (D.bool true) then some ([AV.dat (D.bool true)], []) else none) else 
    (bif okY (sealR n ds) then 
     (bif D.eqb (D.bool (openE (sealR n ds) != (0 : Int))) (D.bool false) then 
      (bif D.eqb (D.bool (openN (sealR n ds) != n)) (D.bool false) then 
       (bif D.eqb (D.bool ((↑(List.length (openL (sealR n ds))) : Int) != (108 : Int))) (D.bool false) then 
        (bif decide (Int.toNat (↑(List.length ds) : Int) ≤ List.length (openL (sealR n ds))) then 
         (bif isBytes (seg (openL (sealR n ds)) (0 : Nat) (Int.toNat (↑(List.length ds) : Int) - (0 : Nat))) then 
          (bif isBytes ds then 
           (bif D.eqb (D.bool !decide (byteVs (seg (openL (sealR n ds)) (0 : Nat) (Int.toNat (↑(List.length ds) : Int) - (0 : Nat))) = byteVs ds)) (D.bool false) then 
            (bif okFill (openL (sealR n ds)) (↑(List.length ds) : Int) then 
             (bif decide (at_ > (896 : Int)) == true then 
              (bif decide (at_ > (896 : Int)) then 
               (bif decide (at_ < (928 : Int)) then some ([AV.dat (D.bool true)], []) else 
                (bif fits Sh.one (sealR n ds) then 
                 (bif decide (((0 : Nat) + List.length (sealR n ds)) * (1 : Nat) ≤ (35184372088832 : Nat)) then 
                  (bif okFlip (sealR n ds) turn && Nat.beq ((0 : Nat) + List.length (sealR n ds)) (128 : Nat) && Nat.beq ((0 : Nat) + List.length (sealR n ds)) (128 : Nat) && D.eqbL (sealR n ds) (sealR n ds) then 
                   (bif Nat.beq (List.length (flipTo (sealR n ds) at_ turn (32 : Nat))) ((0 : Nat) + List.length (sealR n ds)) then 
                    (bif okY (seg (flipTo (sealR n ds) at_ turn (32 : Nat)) (0 : Nat) ((0 : Nat) + List.length (sealR n ds))) then 
                     (bif Nat.beq (List.length (flipTo (sealR n ds) at_ turn (32 : Nat))) ((0 : Nat) + List.length (sealR n ds)) then 
                      (bif isBytes (seg (flipTo (sealR n ds) at_ turn (32 : Nat)) (0 : Nat) ((0 : Nat) + List.length (sealR n ds))) then 
                       (bif isBytes (sealR n ds) then 
                        (bif D.eqb (D.bool (false != ((openE (seg (flipTo (sealR n ds) at_ turn (32 : Nat)) (0 : Nat) ((0 : Nat) + List.length (sealR n ds))) == (0 : Int)) == decide (byteVs (seg (flipTo (sealR n ds) at_ turn (32 : Nat)) (0 : Nat) ((0 : Nat) + List.length (sealR n ds))) = byteVs (sealR n ds))))) (D.bool true) then some ([AV.dat (D.bool true)], []) else none) else none) else none) else none) else none) else none) else none) else none) else none)) else 
               (bif fits Sh.one (sealR n ds) then 
                (bif decide (((0 : Nat) + List.length (sealR n ds)) * (1 : Nat) ≤ (35184372088832 : Nat)) then 
                 (bif okFlip (sealR n ds) turn && Nat.beq ((0 : Nat) + List.length (sealR n ds)) (128 : Nat) && Nat.beq ((0 : Nat) + List.length (sealR n ds)) (128 : Nat) && D.eqbL (sealR n ds) (sealR n ds) then 
                  (bif Nat.beq (List.length (flipTo (sealR n ds) at_ turn (32 : Nat))) ((0 : Nat) + List.length (sealR n ds)) then 
                   (bif okY (seg (flipTo (sealR n ds) at_ turn (32 : Nat)) (0 : Nat) ((0 : Nat) + List.length (sealR n ds))) then 
                    (bif Nat.beq (List.length (flipTo (sealR n ds) at_ turn (32 : Nat))) ((0 : Nat) + List.length (sealR n ds)) then 
                     (bif isBytes (seg (flipTo (sealR n ds) at_ turn (32 : Nat)) (0 : Nat) ((0 : Nat) + List.length (sealR n ds))) then 
                      (bif isBytes (sealR n ds) then 
                       (bif D.eqb (D.bool (false != ((openE (seg (flipTo (sealR n ds) at_ turn (32 : Nat)) (0 : Nat) ((0 : Nat) + List.length (sealR n ds))) == (0 : Int)) == decide (byteVs (seg (flipTo (sealR n ds) at_ turn (32 : Nat)) (0 : Nat) ((0 : Nat) + List.length (sealR n ds))) = byteVs (sealR n ds))))) (D.bool true) then some ([AV.dat (D.bool true)], []) else none) else none) else none) else none) else none) else none) else none) else none) else none)) else 
              (bif decide (at_ > (896 : Int)) then none else 
               (bif fits Sh.one (sealR n ds) then 
                (bif decide (((0 : Nat) + List.length (sealR n ds)) * (1 : Nat) ≤ (35184372088832 : Nat)) then 
                 (bif okFlip (sealR n ds) turn && Nat.beq ((0 : Nat) + List.length (sealR n ds)) (128 : Nat) && Nat.beq ((0 : Nat) + List.length (sealR n ds)) (128 : Nat) && D.eqbL (sealR n ds) (sealR n ds) then 
                  (bif Nat.beq (List.length (flipTo (sealR n ds) at_ turn (32 : Nat))) ((0 : Nat) + List.length (sealR n ds)) then 
                   (bif okY (seg (flipTo (sealR n ds) at_ turn (32 : Nat)) (0 : Nat) ((0 : Nat) + List.length (sealR n ds))) then 
                    (bif Nat.beq (List.length (flipTo (sealR n ds) at_ turn (32 : Nat))) ((0 : Nat) + List.length (sealR n ds)) then 
                     (bif isBytes (seg (flipTo (sealR n ds) at_ turn (32 : Nat)) (0 : Nat) ((0 : Nat) + List.length (sealR n ds))) then 
                      (bif isBytes (sealR n ds) then 
                       (bif D.eqb (D.bool (false != ((openE (seg (flipTo (sealR n ds) at_ turn (32 : Nat)) (0 : Nat) ((0 : Nat) + List.length (sealR n ds))) == (0 : Int)) == decide (byteVs (seg (flipTo (sealR n ds) at_ turn (32 : Nat)) (0 : Nat) ((0 : Nat) + List.length (sealR n ds))) = byteVs (sealR n ds))))) (D.bool true) then some ([AV.dat (D.bool true)], []) else none) else none) else none) else none) else none) else none) else none) else none) else none))) else none) else none) else none) else none) else none) else none) else none) else none) else none)) else none) := by kernel_rfl

end Go.Proofs.Ytfajnpnmghbdpaa
