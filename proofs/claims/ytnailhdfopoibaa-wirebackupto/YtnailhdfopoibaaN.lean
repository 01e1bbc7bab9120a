/- Seat 02: WireBack, the loops. -/
import Derived.Test.YtnailhdfopoibaaO
namespace Go.Proofs.Ytnailhdfopoibaa
open Go.AX
set_option maxRecDepth 100000

abbrev H5 : Hints := [(2, 0, [.freeze 5]), (999999, 131, [.is 131 (aBool false)]), (999999, 151, [.is 151 (aBool false)]), (999999, 156, [.is 156 (aBool true)])]
abbrev shP : Sh := .agg [.one, .one, .one]

def back1_fr (ls : List D) (cut : Int) : (Int × Int × List D) → Frame' := fun ⟨i, many, b⟩ => mkF 173 [(0, .dat (.slc (.agg [.one, .one, .one]) ls)), (1, .dat (.int .i64 cut)), (5, .dat (.slc .one b)), (6, .dat (.int .i64 many)), (7, .dat (.int .i64 i))]
def back1_st (_ : List D) (_ : Int) : (Int × Int × List D) → Store := fun ⟨_, _, _⟩ => []
def back1_step (ls : List D) (cut : Int) : (Int × Int × List D) → T ((Int × Int × List D) ⊕ LOut) := fun ⟨i, many, b⟩ => 
  .br (decide (i < (↑(List.length ls) : Int)) == true) (
   .br (decide (i < (↑(List.length ls) : Int))) (
    .br (decide (i < (50 : Int))) (
     .chk (decide ((0 : Int) ≤ i)) (
      .chk (decide (Int.toNat i < List.length ls)) (
       .chk (okE (Ek.agg [Ek.int IntKind.u64, Ek.int IntKind.i64, Ek.str]) (nthD ls (Int.toNat i))) (
        .br (decide (D.getI (nthD (D.getL (nthD ls (Int.toNat i))) (1 : Nat)) < (1 : Int))) (.leaf (.inr (none, mkF (173 : Nat) [((4 : Nat), AV.dat (D.bool true))], []))) (
         .chk (decide ((0 : Int) ≤ i)) (
          .chk (decide (Int.toNat i < List.length ls)) (
           .chk (okE (Ek.agg [Ek.int IntKind.u64, Ek.int IntKind.i64, Ek.str]) (nthD ls (Int.toNat i))) (
            .br (decide (D.getI (nthD (D.getL (nthD ls (Int.toNat i))) (1 : Nat)) > (8 : Int))) (.leaf (.inr (none, mkF (173 : Nat) [((4 : Nat), AV.dat (D.bool true))], []))) (
             .chk (decide ((0 : Int) ≤ i)) (
              .chk (decide (Int.toNat i < List.length ls)) (
               .chk (okE (Ek.agg [Ek.int IntKind.u64, Ek.int IntKind.i64, Ek.str]) (nthD ls (Int.toNat i))) (
                .br (decide ((↑(ByteArray.size (D.getS (nthD (D.getL (nthD ls (Int.toNat i))) (2 : Nat)))) : Int) > (255 : Int))) (.leaf (.inr (none, mkF (173 : Nat) [((4 : Nat), AV.dat (D.bool true))], []))) (
                 .chk (decide ((0 : Int) ≤ i)) (
                  .chk (decide (Int.toNat i < List.length ls)) (
                   .chk (okE (Ek.agg [Ek.int IntKind.u64, Ek.int IntKind.i64, Ek.str]) (nthD ls (Int.toNat i))) (
                    .br (decide (D.getI (nthD (D.getL (nthD ls (Int.toNat i))) (1 : Nat)) < (8 : Int))) (
                     .chk (decide ((0 : Int) ≤ i)) (
                      .chk (decide (Int.toNat i < List.length ls)) (
                       .chk (okE (Ek.agg [Ek.int IntKind.u64, Ek.int IntKind.i64, Ek.str]) (nthD ls (Int.toNat i))) (
                        .chk (decide ((0 : Int) ≤ i)) (
                         .chk (decide (Int.toNat i < List.length ls)) (
                          .chk (okE (Ek.agg [Ek.int IntKind.u64, Ek.int IntKind.i64, Ek.str]) (nthD ls (Int.toNat i))) (
                           .chk (decide ((0 : Int) ≤ IntKind.wrap IntKind.i64 ((8 : Int) * D.getI (nthD (D.getL (nthD ls (Int.toNat i))) (1 : Nat))))) (
                            .br (Int.fdiv (D.getI (nthD (D.getL (nthD ls (Int.toNat i))) (0 : Nat))) ((2 : Int) ^ min (Int.toNat (IntKind.wrap IntKind.i64 ((8 : Int) * D.getI (nthD (D.getL (nthD ls (Int.toNat i))) (1 : Nat))))) (64 : Nat)) != (0 : Int)) (.leaf (.inr (none, mkF (173 : Nat) [((4 : Nat), AV.dat (D.bool true))], []))) (
                             .chk (decide ((0 : Int) ≤ i)) (
                              .chk (decide (Int.toNat i < List.length ls)) (
                               .chk (okE (Ek.agg [Ek.int IntKind.u64, Ek.int IntKind.i64, Ek.str]) (nthD ls (Int.toNat i))) (
                                .br (!decide (Array.toList (ByteArray.data (D.getS (nthD (D.getL (nthD ls (Int.toNat i))) (2 : Nat)))) = [])) (
                                 .chk (decide ((0 : Int) ≤ i)) (
                                  .chk (decide (Int.toNat i < List.length ls)) (
                                   .chk (okE (Ek.agg [Ek.int IntKind.u64, Ek.int IntKind.i64, Ek.str]) (nthD ls (Int.toNat i))) (
                                    .chk (fits Sh.one b && decide (List.length b + (300 : Nat) ≤ (35184372088832 : Nat))) (.leaf (.inl ((IntKind.wrap IntKind.i64 (i + (1 : Int))), (IntKind.wrap IntKind.i64 (many + (1 : Int))), (b ++ D.int IntKind.u8 (↑(textLen (D.getS (nthD (D.getL (nthD ls (Int.toNat i))) (2 : Nat)))) : Int) :: bytesD (subStr (D.getS (nthD (D.getL (nthD ls (Int.toNat i))) (2 : Nat))) (0 : Nat) (textLen (D.getS (nthD (D.getL (nthD ls (Int.toNat i))) (2 : Nat))))))))))))) (
                                 .chk (decide ((0 : Int) ≤ i)) (
                                  .chk (decide (Int.toNat i < List.length ls)) (
                                   .chk (okE (Ek.agg [Ek.int IntKind.u64, Ek.int IntKind.i64, Ek.str]) (nthD ls (Int.toNat i))) (
                                    .chk (decide ((0 : Int) ≤ i)) (
                                     .chk (decide (Int.toNat i < List.length ls)) (
                                      .chk (okE (Ek.agg [Ek.int IntKind.u64, Ek.int IntKind.i64, Ek.str]) (nthD ls (Int.toNat i))) (
                                       .chk (fits Sh.one b && decide ((0 : Int) ≤ D.getI (nthD (D.getL (nthD ls (Int.toNat i))) (0 : Nat))) && decide (List.length b + (8 : Nat) ≤ (35184372088832 : Nat))) (.leaf (.inl ((IntKind.wrap IntKind.i64 (i + (1 : Int))), (IntKind.wrap IntKind.i64 (many + (1 : Int))), (b ++ numB (D.getI (nthD (D.getL (nthD ls (Int.toNat i))) (0 : Nat))) (Int.toNat (fitI (D.getI (nthD (D.getL (nthD ls (Int.toNat i))) (1 : Nat)))))))))))))))))))))))))))) (
                     .chk (decide ((0 : Int) ≤ i)) (
                      .chk (decide (Int.toNat i < List.length ls)) (
                       .chk (okE (Ek.agg [Ek.int IntKind.u64, Ek.int IntKind.i64, Ek.str]) (nthD ls (Int.toNat i))) (
                        .br (!decide (Array.toList (ByteArray.data (D.getS (nthD (D.getL (nthD ls (Int.toNat i))) (2 : Nat)))) = [])) (
                         .chk (decide ((0 : Int) ≤ i)) (
                          .chk (decide (Int.toNat i < List.length ls)) (
                           .chk (okE (Ek.agg [Ek.int IntKind.u64, Ek.int IntKind.i64, Ek.str]) (nthD ls (Int.toNat i))) (
                            .chk (fits Sh.one b && decide (List.length b + (300 : Nat) ≤ (35184372088832 : Nat))) (.leaf (.inl ((IntKind.wrap IntKind.i64 (i + (1 : Int))), (IntKind.wrap IntKind.i64 (many + (1 : Int))), (b ++ D.int IntKind.u8 (↑(textLen (D.getS (nthD (D.getL (nthD ls (Int.toNat i))) (2 : Nat)))) : Int) :: bytesD (subStr (D.getS (nthD (D.getL (nthD ls (Int.toNat i))) (2 : Nat))) (0 : Nat) (textLen (D.getS (nthD (D.getL (nthD ls (Int.toNat i))) (2 : Nat))))))))))))) (
                         .chk (decide ((0 : Int) ≤ i)) (
                          .chk (decide (Int.toNat i < List.length ls)) (
                           .chk (okE (Ek.agg [Ek.int IntKind.u64, Ek.int IntKind.i64, Ek.str]) (nthD ls (Int.toNat i))) (
                            .chk (decide ((0 : Int) ≤ i)) (
                             .chk (decide (Int.toNat i < List.length ls)) (
                              .chk (okE (Ek.agg [Ek.int IntKind.u64, Ek.int IntKind.i64, Ek.str]) (nthD ls (Int.toNat i))) (
                               .chk (fits Sh.one b && decide ((0 : Int) ≤ D.getI (nthD (D.getL (nthD ls (Int.toNat i))) (0 : Nat))) && decide (List.length b + (8 : Nat) ≤ (35184372088832 : Nat))) (.leaf (.inl ((IntKind.wrap IntKind.i64 (i + (1 : Int))), (IntKind.wrap IntKind.i64 (many + (1 : Int))), (b ++ numB (D.getI (nthD (D.getL (nthD ls (Int.toNat i))) (0 : Nat))) (Int.toNat (fitI (D.getI (nthD (D.getL (nthD ls (Int.toNat i))) (1 : Nat)))))))))))))))))))))))))))))))))))) (.leaf (.inr ((some (0 : Nat)), mkF (173 : Nat) [((0 : Nat), AV.dat (D.slc (Sh.agg [Sh.one, Sh.one, Sh.one]) ls)), ((1 : Nat), AV.dat (D.int IntKind.i64 cut)), ((5 : Nat), AV.dat (D.slc Sh.one b)), ((6 : Nat), AV.dat (D.int IntKind.i64 many))], [])))) (.leaf (.inr ((some (0 : Nat)), mkF (173 : Nat) [((0 : Nat), AV.dat (D.slc (Sh.agg [Sh.one, Sh.one, Sh.one]) ls)), ((1 : Nat), AV.dat (D.int IntKind.i64 cut)), ((5 : Nat), AV.dat (D.slc Sh.one b)), ((6 : Nat), AV.dat (D.int IntKind.i64 many))], [])))) (
   .br (decide (i < (↑(List.length ls) : Int))) (.fail) (.leaf (.inr ((some (0 : Nat)), mkF (173 : Nat) [((0 : Nat), AV.dat (D.slc (Sh.agg [Sh.one, Sh.one, Sh.one]) ls)), ((1 : Nat), AV.dat (D.int IntKind.i64 cut)), ((5 : Nat), AV.dat (D.slc Sh.one b)), ((6 : Nat), AV.dat (D.int IntKind.i64 many))], []))))
theorem back1_round (lp : Loops) (ls : List D) (cut : Int) (i many : Int) (b : List D) (K : Kt) : oneRound (envOf tab Sq [] lp H5) Try.f5 0 (0) (mkF 173 [(0, .dat (.slc (.agg [.one, .one, .one]) ls)), (1, .dat (.int .i64 cut)), (5, .dat (.slc .one b)), (6, .dat (.int .i64 many)), (7, .dat (.int .i64 i))]) ([]) K =
  (bif decide (i < (↑(List.length ls) : Int)) == true then 
   (bif decide (i < (↑(List.length ls) : Int)) then 
    (bif decide (i < (50 : Int)) then 
     (bif decide ((0 : Int) ≤ i) then 
      (bif decide (Int.toNat i < List.length ls) then 
       (bif okE (Ek.agg [Ek.int IntKind.u64, Ek.int IntKind.i64, Ek.str]) (nthD ls (Int.toNat i)) then 
        (bif decide (D.getI (nthD (D.getL (nthD ls (Int.toNat i))) (1 : Nat)) < (1 : Int)) then K (Exit.ret) (mkF (173 : Nat) [((4 : Nat), AV.dat (D.bool true))]) ([]) else 
         (bif decide ((0 : Int) ≤ i) then 
          (bif decide (Int.toNat i < List.length ls) then 
           (bif okE (Ek.agg [Ek.int IntKind.u64, Ek.int IntKind.i64, Ek.str]) (nthD ls (Int.toNat i)) then 
            (bif decide (D.getI (nthD (D.getL (nthD ls (Int.toNat i))) (1 : Nat)) > (8 : Int)) then K (Exit.ret) (mkF (173 : Nat) [((4 : Nat), AV.dat (D.bool true))]) ([]) else 
             (bif decide ((0 : Int) ≤ i) then 
              (bif decide (Int.toNat i < List.length ls) then 
               (bif okE (Ek.agg [Ek.int IntKind.u64, Ek.int IntKind.i64, Ek.str]) (nthD ls (Int.toNat i)) then 
                (bif decide ((↑(ByteArray.size (D.getS (nthD (D.getL (nthD ls (Int.toNat i))) (2 : Nat)))) : Int) > (255 : Int)) then K (Exit.ret) (mkF (173 : Nat) [((4 : Nat), AV.dat (D.bool true))]) ([]) else 
                 (bif decide ((0 : Int) ≤ i) then 
                  (bif decide (Int.toNat i < List.length ls) then 
                   (bif okE (Ek.agg [Ek.int IntKind.u64, Ek.int IntKind.i64, Ek.str]) (nthD ls (Int.toNat i)) then 
                    (bif decide (D.getI (nthD (D.getL (nthD ls (Int.toNat i))) (1 : Nat)) < (8 : Int)) then 
                     (bif decide ((0 : Int) ≤ i) then 
                      (bif decide (Int.toNat i < List.length ls) then 
                       (bif okE (Ek.agg [Ek.int IntKind.u64, Ek.int IntKind.i64, Ek.str]) (nthD ls (Int.toNat i)) then 
                        (bif decide ((0 : Int) ≤ i) then 
                         (bif decide (Int.toNat i < List.length ls) then 
                          (bif okE (Ek.agg [Ek.int IntKind.u64, Ek.int IntKind.i64, Ek.str]) (nthD ls (Int.toNat i)) then 
                           (bif decide ((0 : Int) ≤ IntKind.wrap IntKind.i64 ((8 : Int) * D.getI (nthD (D.getL (nthD ls (Int.toNat i))) (1 : Nat)))) then 
                            (bif Int.fdiv (D.getI (nthD (D.getL (nthD ls (Int.toNat i))) (0 : Nat))) ((2 : Int) ^ min (Int.toNat (IntKind.wrap IntKind.i64 ((8 : Int) * D.getI (nthD (D.getL (nthD ls (Int.toNat i))) (1 : Nat))))) (64 : Nat)) != (0 : Int) then K (Exit.ret) (mkF (173 : Nat) [((4 : Nat), AV.dat (D.bool true))]) ([]) else 
                             (bif decide ((0 : Int) ≤ i) then 
                              (bif decide (Int.toNat i < List.length ls) then 
                               (bif okE (Ek.agg [Ek.int IntKind.u64, Ek.int IntKind.i64, Ek.str]) (nthD ls (Int.toNat i)) then 
                                (bif !decide (Array.toList (ByteArray.data (D.getS (nthD (D.getL (nthD ls (Int.toNat i))) (2 : Nat)))) = []) then 
                                 (bif decide ((0 : Int) ≤ i) then 
                                  (bif decide (Int.toNat i < List.length ls) then 
                                   (bif okE (Ek.agg [Ek.int IntKind.u64, Ek.int IntKind.i64, Ek.str]) (nthD ls (Int.toNat i)) then 
                                    (bif fits Sh.one b && decide (List.length b + (300 : Nat) ≤ (35184372088832 : Nat)) then K (Exit.normal) (mkF (173 : Nat) [((0 : Nat), AV.dat (D.slc (Sh.agg [Sh.one, Sh.one, Sh.one]) ls)), ((1 : Nat), AV.dat (D.int IntKind.i64 cut)), ((5 : Nat), AV.dat (D.slc Sh.one (b ++ D.int IntKind.u8 (↑(textLen (D.getS (nthD (D.getL (nthD ls (Int.toNat i))) (2 : Nat)))) : Int) :: bytesD (subStr (D.getS (nthD (D.getL (nthD ls (Int.toNat i))) (2 : Nat))) (0 : Nat) (textLen (D.getS (nthD (D.getL (nthD ls (Int.toNat i))) (2 : Nat)))))))), ((6 : Nat), AV.dat (D.int IntKind.i64 (IntKind.wrap IntKind.i64 (many + (1 : Int))))), ((7 : Nat), AV.dat (D.int IntKind.i64 (IntKind.wrap IntKind.i64 (i + (1 : Int))))), ((19 : Nat), AV.dat (D.int IntKind.i64 i)), ((20 : Nat), AV.dat (D.int IntKind.i64 (IntKind.wrap IntKind.i64 (i + (1 : Int)))))]) ([]) else none) else none) else none) else none) else 
                                 (bif decide ((0 : Int) ≤ i) then 
                                  (bif decide (Int.toNat i < List.length ls) then 
                                   (bif okE (Ek.agg [Ek.int IntKind.u64, Ek.int IntKind.i64, Ek.str]) (nthD ls (Int.toNat i)) then 
                                    (bif decide ((0 : Int) ≤ i) then 
                                     (bif decide (Int.toNat i < List.length ls) then 
                                      (bif okE (Ek.agg [Ek.int IntKind.u64, Ek.int IntKind.i64, Ek.str]) (nthD ls (Int.toNat i)) then 
                                       (bif fits Sh.one b && decide ((0 : Int) ≤ D.getI (nthD (D.getL (nthD ls (Int.toNat i))) (0 : Nat))) && decide (List.length b + (8 : Nat) ≤ (35184372088832 : Nat)) then K (Exit.normal) (mkF (173 : Nat) [((0 : Nat), AV.dat (D.slc (Sh.agg [Sh.one, Sh.one, Sh.one]) ls)), ((1 : Nat), AV.dat (D.int IntKind.i64 cut)), ((5 : Nat), AV.dat (D.slc Sh.one (b ++ numB (D.getI (nthD (D.getL (nthD ls (Int.toNat i))) (0 : Nat))) (Int.toNat (fitI (D.getI (nthD (D.getL (nthD ls (Int.toNat i))) (1 : Nat)))))))), ((6 : Nat), AV.dat (D.int IntKind.i64 (IntKind.wrap IntKind.i64 (many + (1 : Int))))), ((7 : Nat), AV.dat (D.int IntKind.i64 (IntKind.wrap IntKind.i64 (i + (1 : Int))))), ((19 : Nat), AV.dat (D.int IntKind.i64 i)), ((20 : Nat), AV.dat (D.int IntKind.i64 (IntKind.wrap IntKind.i64 (i + (1 : Int)))))]) ([]) else none) else none) else none) else none) else none) else none) else none)) else none) else none) else none)) else none) else none) else none) else none) else none) else none) else none) else 
                     (bif decide ((0 : Int) ≤ i) then 
                      (bif decide (Int.toNat i < List.length ls) then 
                       (bif okE (Ek.agg [Ek.int IntKind.u64, Ek.int IntKind.i64, Ek.str]) (nthD ls (Int.toNat i)) then 
                        (bif !decide (Array.toList (ByteArray.data (D.getS (nthD (D.getL (nthD ls (Int.toNat i))) (2 : Nat)))) = []) then 
                         (bif decide ((0 : Int) ≤ i) then 
                          (bif decide (Int.toNat i < List.length ls) then 
                           (bif okE (Ek.agg [Ek.int IntKind.u64, Ek.int IntKind.i64, Ek.str]) (nthD ls (Int.toNat i)) then 
                            (bif fits Sh.one b && decide (List.length b + (300 : Nat) ≤ (35184372088832 : Nat)) then K (Exit.normal) (mkF (173 : Nat) [((0 : Nat), AV.dat (D.slc (Sh.agg [Sh.one, Sh.one, Sh.one]) ls)), ((1 : Nat), AV.dat (D.int IntKind.i64 cut)), ((5 : Nat), AV.dat (D.slc Sh.one (b ++ D.int IntKind.u8 (↑(textLen (D.getS (nthD (D.getL (nthD ls (Int.toNat i))) (2 : Nat)))) : Int) :: bytesD (subStr (D.getS (nthD (D.getL (nthD ls (Int.toNat i))) (2 : Nat))) (0 : Nat) (textLen (D.getS (nthD (D.getL (nthD ls (Int.toNat i))) (2 : Nat)))))))), ((6 : Nat), AV.dat (D.int IntKind.i64 (IntKind.wrap IntKind.i64 (many + (1 : Int))))), ((7 : Nat), AV.dat (D.int IntKind.i64 (IntKind.wrap IntKind.i64 (i + (1 : Int))))), ((19 : Nat), AV.dat (D.int IntKind.i64 i)), ((20 : Nat), AV.dat (D.int IntKind.i64 (IntKind.wrap IntKind.i64 (i + (1 : Int)))))]) ([]) else none) else none) else none) else none) else 
                         (bif decide ((0 : Int) ≤ i) then 
                          (bif decide (Int.toNat i < List.length ls) then 
                           (bif okE (Ek.agg [Ek.int IntKind.u64, Ek.int IntKind.i64, Ek.str]) (nthD ls (Int.toNat i)) then 
                            (bif decide ((0 : Int) ≤ i) then 
                             (bif decide (Int.toNat i < List.length ls) then 
                              (bif okE (Ek.agg [Ek.int IntKind.u64, Ek.int IntKind.i64, Ek.str]) (nthD ls (Int.toNat i)) then 
                               (bif fits Sh.one b && decide ((0 : Int) ≤ D.getI (nthD (D.getL (nthD ls (Int.toNat i))) (0 : Nat))) && decide (List.length b + (8 : Nat) ≤ (35184372088832 : Nat)) then K (Exit.normal) (mkF (173 : Nat) [((0 : Nat), AV.dat (D.slc (Sh.agg [Sh.one, Sh.one, Sh.one]) ls)), ((1 : Nat), AV.dat (D.int IntKind.i64 cut)), ((5 : Nat), AV.dat (D.slc Sh.one (b ++ numB (D.getI (nthD (D.getL (nthD ls (Int.toNat i))) (0 : Nat))) (Int.toNat (fitI (D.getI (nthD (D.getL (nthD ls (Int.toNat i))) (1 : Nat)))))))), ((6 : Nat), AV.dat (D.int IntKind.i64 (IntKind.wrap IntKind.i64 (many + (1 : Int))))), ((7 : Nat), AV.dat (D.int IntKind.i64 (IntKind.wrap IntKind.i64 (i + (1 : Int))))), ((19 : Nat), AV.dat (D.int IntKind.i64 i)), ((20 : Nat), AV.dat (D.int IntKind.i64 (IntKind.wrap IntKind.i64 (i + (1 : Int)))))]) ([]) else none) else none) else none) else none) else none) else none) else none)) else none) else none) else none)) else none) else none) else none)) else none) else none) else none)) else none) else none) else none)) else none) else none) else none) else K (Exit.exit (0 : Nat)) (mkF (173 : Nat) [((0 : Nat), AV.dat (D.slc (Sh.agg [Sh.one, Sh.one, Sh.one]) ls)), ((1 : Nat), AV.dat (D.int IntKind.i64 cut)), ((5 : Nat), AV.dat (D.slc Sh.one b)), ((6 : Nat), AV.dat (D.int IntKind.i64 many))]) ([])) else K (Exit.exit (0 : Nat)) (mkF (173 : Nat) [((0 : Nat), AV.dat (D.slc (Sh.agg [Sh.one, Sh.one, Sh.one]) ls)), ((1 : Nat), AV.dat (D.int IntKind.i64 cut)), ((5 : Nat), AV.dat (D.slc Sh.one b)), ((6 : Nat), AV.dat (D.int IntKind.i64 many))]) ([])) else 
   (bif decide (i < (↑(List.length ls) : Int)) then none else K (Exit.exit (0 : Nat)) (mkF (173 : Nat) [((0 : Nat), AV.dat (D.slc (Sh.agg [Sh.one, Sh.one, Sh.one]) ls)), ((1 : Nat), AV.dat (D.int IntKind.i64 cut)), ((5 : Nat), AV.dat (D.slc Sh.one b)), ((6 : Nat), AV.dat (D.int IntKind.i64 many))]) ([]))) := by kernel_rfl
theorem back1_hr (lp : Loops) (ls : List D) (cut : Int) : ∀ (sA : (Int × Int × List D)) (K : Kt) (N : (Int × Int × List D) → Option Res), (∀ sB fr' σ', cleanF (liveAt Try.f5 0) 0 fr' = back1_fr ls cut sB → trim (0) (back1_fr ls cut sB) σ' = back1_st ls cut sB → K .normal fr' σ' = N sB) →
    oneRound (envOf tab Sq [] lp H5) Try.f5 0 (0) (back1_fr ls cut sA) (back1_st ls cut sA) K = (back1_step ls cut sA).k (LK K N) := by
  intro sA K N hN
  obtain ⟨i, many, b⟩ := sA
  exact (back1_round lp ls cut i many b K).trans (cong2 (cong2 (cong2 (cong2 (cong2 (cong2 (cong2 rfl (cong2 (cong2 (cong2 (cong2 rfl (cong2 (cong2 (cong2 (cong2 rfl (cong2 (cong2 (cong2 (cong2 (cong2 (cong2 (cong2 (cong2 (cong2 (cong2 (cong2 (cong2 rfl (cong2 (cong2 (cong2 (cong2 (cong2 (cong2 (cong2 (cong2 (hN ((IntKind.wrap IntKind.i64 (i + (1 : Int))), (IntKind.wrap IntKind.i64 (many + (1 : Int))), (b ++ D.int IntKind.u8 (↑(textLen (D.getS (nthD (D.getL (nthD ls (Int.toNat i))) (2 : Nat)))) : Int) :: bytesD (subStr (D.getS (nthD (D.getL (nthD ls (Int.toNat i))) (2 : Nat))) (0 : Nat) (textLen (D.getS (nthD (D.getL (nthD ls (Int.toNat i))) (2 : Nat))))))) _ _ (by kernel_rfl) (by kernel_rfl)) rfl) rfl) rfl) rfl) (cong2 (cong2 (cong2 (cong2 (cong2 (cong2 (cong2 (hN ((IntKind.wrap IntKind.i64 (i + (1 : Int))), (IntKind.wrap IntKind.i64 (many + (1 : Int))), (b ++ numB (D.getI (nthD (D.getL (nthD ls (Int.toNat i))) (0 : Nat))) (Int.toNat (fitI (D.getI (nthD (D.getL (nthD ls (Int.toNat i))) (1 : Nat))))))) _ _ (by kernel_rfl) (by kernel_rfl)) rfl) rfl) rfl) rfl) rfl) rfl) rfl)) rfl) rfl) rfl)) rfl) rfl) rfl) rfl) rfl) rfl) rfl) (cong2 (cong2 (cong2 (cong2 (cong2 (cong2 (cong2 (cong2 (hN ((IntKind.wrap IntKind.i64 (i + (1 : Int))), (IntKind.wrap IntKind.i64 (many + (1 : Int))), (b ++ D.int IntKind.u8 (↑(textLen (D.getS (nthD (D.getL (nthD ls (Int.toNat i))) (2 : Nat)))) : Int) :: bytesD (subStr (D.getS (nthD (D.getL (nthD ls (Int.toNat i))) (2 : Nat))) (0 : Nat) (textLen (D.getS (nthD (D.getL (nthD ls (Int.toNat i))) (2 : Nat))))))) _ _ (by kernel_rfl) (by kernel_rfl)) rfl) rfl) rfl) rfl) (cong2 (cong2 (cong2 (cong2 (cong2 (cong2 (cong2 (hN ((IntKind.wrap IntKind.i64 (i + (1 : Int))), (IntKind.wrap IntKind.i64 (many + (1 : Int))), (b ++ numB (D.getI (nthD (D.getL (nthD ls (Int.toNat i))) (0 : Nat))) (Int.toNat (fitI (D.getI (nthD (D.getL (nthD ls (Int.toNat i))) (1 : Nat))))))) _ _ (by kernel_rfl) (by kernel_rfl)) rfl) rfl) rfl) rfl) rfl) rfl) rfl)) rfl) rfl) rfl)) rfl) rfl) rfl)) rfl) rfl) rfl)) rfl) rfl) rfl)) rfl) rfl) rfl) rfl) rfl) (cong2 rfl rfl))
theorem back1_enter (ls : List D) (cut : Int) (i many : Int) (b : List D) (fr : Frame') (hl : Nat.beq fr.length 173 = true) (g0 : fr.getD 0 .undef = AV.dat (D.slc (Sh.agg [Sh.one, Sh.one, Sh.one]) ls)) (g1 : fr.getD 1 .undef = AV.dat (D.int IntKind.i64 cut)) (g5 : fr.getD 5 .undef = AV.dat (D.slc Sh.one b)) (g6 : fr.getD 6 .undef = AV.dat (D.int IntKind.i64 many)) (g7 : fr.getD 7 .undef = AV.dat (D.int IntKind.i64 i)) : cleanF (liveAt Try.f5 0) 0 fr = back1_fr ls cut (i, many, b) := by
  have e : liveAt Try.f5 0 = [7, 6, 0, 1, 5] := by kernel_rfl
  rw [clean_mk (Nat.eq_of_beq_eq_true hl), e]
  show mkF 173 [(7, fr.getD 7 .undef), (6, fr.getD 6 .undef), (0, fr.getD 0 .undef), (1, fr.getD 1 .undef), (5, fr.getD 5 .undef)] = _
  rw [g7, g6, g0, g1, g5]
  kernel_rfl


def back2_fr (ls : List D) (cut many : Int) (b : List D) : (Int × Sc × Sc) → Frame' := fun ⟨i, _, _⟩ => mkF 173 [(0, .dat (.slc (.agg [.one, .one, .one]) ls)), (1, .dat (.int .i64 cut)), (5, .dat (.slc .one b)), (6, .dat (.int .i64 many)), (8, ptrS), (9, .ptr shS 1 0 []), (10, .dat (.int .i64 i))]
def back2_st (_ : List D) (_ _ : Int) (_ : List D) : (Int × Sc × Sc) → Store := fun ⟨_, c, d⟩ => [scanB c, scanB d]
def back2_step (ls : List D) (cut many : Int) (b : List D) : (Int × Sc × Sc) → T ((Int × Sc × Sc) ⊕ LOut) := fun ⟨i, c, d⟩ => 
  .br (decide (i < many)) (
   .chk (decide ((0 : Int) ≤ i)) (
    .chk (decide (Int.toNat i < List.length ls)) (
     .chk (okE (Ek.agg [Ek.int IntKind.u64, Ek.int IntKind.i64, Ek.str]) (nthD ls (Int.toNat i))) (
      .br (!decide (Array.toList (ByteArray.data (D.getS (nthD (D.getL (nthD ls (Int.toNat i))) (2 : Nat)))) = [])) (
       .chk (isBytes (Sc.ds d) && decide (List.length (Sc.ds d) ≤ (35184372088832 : Nat))) (
        .chk (isBytes (Sc.ds c) && decide (List.length (Sc.ds c) ≤ (35184372088832 : Nat))) (
         .chk (decide ((0 : Int) ≤ i)) (
          .chk (decide (Int.toNat i < List.length ls)) (
           .chk (okE (Ek.agg [Ek.int IntKind.u64, Ek.int IntKind.i64, Ek.str]) (nthD ls (Int.toNat i))) (
            .chk (D.eqb (D.bool !decide (byteVs (Sc.takes (Sc.text1 c (255 : Int)) (Sc.textN c)) = Array.toList (ByteArray.data (D.getS (nthD (D.getL (nthD ls (Int.toNat i))) (2 : Nat)))))) (D.bool false)) (.leaf (.inl ((IntKind.wrap IntKind.i64 (i + (1 : Int))), (Sc.text2 c (255 : Int)), (Sc.text2 d (255 : Int))))))))))) (
       .chk (decide ((0 : Int) ≤ i)) (
        .chk (decide (Int.toNat i < List.length ls)) (
         .chk (okE (Ek.agg [Ek.int IntKind.u64, Ek.int IntKind.i64, Ek.str]) (nthD ls (Int.toNat i))) (
          .chk (isBytes (Sc.ds d) && decide (List.length (Sc.ds d) ≤ (35184372088832 : Nat))) (
           .chk (decide ((0 : Int) ≤ i)) (
            .chk (decide (Int.toNat i < List.length ls)) (
             .chk (okE (Ek.agg [Ek.int IntKind.u64, Ek.int IntKind.i64, Ek.str]) (nthD ls (Int.toNat i))) (
              .chk (isBytes (Sc.ds c) && decide (List.length (Sc.ds c) ≤ (35184372088832 : Nat))) (
               .chk (decide ((0 : Int) ≤ i)) (
                .chk (decide (Int.toNat i < List.length ls)) (
                 .chk (okE (Ek.agg [Ek.int IntKind.u64, Ek.int IntKind.i64, Ek.str]) (nthD ls (Int.toNat i))) (
                  .chk (D.eqb (D.bool (numU (0 : Int) (Sc.takes c (fitI (D.getI (nthD (D.getL (nthD ls (Int.toNat i))) (1 : Nat))))) != D.getI (nthD (D.getL (nthD ls (Int.toNat i))) (0 : Nat)))) (D.bool false)) (.leaf (.inl ((IntKind.wrap IntKind.i64 (i + (1 : Int))), (Sc.took c (fitI (D.getI (nthD (D.getL (nthD ls (Int.toNat i))) (1 : Nat))))), (Sc.took d (fitI (D.getI (nthD (D.getL (nthD ls (Int.toNat i))) (1 : Nat)))))))))))))))))))))))) (.leaf (.inr ((some (2 : Nat)), mkF (173 : Nat) [((1 : Nat), AV.dat (D.int IntKind.i64 cut)), ((5 : Nat), AV.dat (D.slc Sh.one b)), ((8 : Nat), AV.ptr (Sh.agg [Sh.one, Sh.one, Sh.one]) (0 : Nat) (0 : Nat) []), ((9 : Nat), AV.ptr (Sh.agg [Sh.one, Sh.one, Sh.one]) (1 : Nat) (0 : Nat) [])], [{ sh := Sh.agg [Sh.one, Sh.one, Sh.one], dyn := false, frz := false, v := AV.dat (D.agg [D.slc Sh.one (Sc.ds c), D.int IntKind.i64 (Sc.f c), D.bool (Sc.b c)]) }, { sh := Sh.agg [Sh.one, Sh.one, Sh.one], dyn := false, frz := false, v := AV.dat (D.agg [D.slc Sh.one (Sc.ds d), D.int IntKind.i64 (Sc.f d), D.bool (Sc.b d)]) }])))
theorem back2_round (lp : Loops) (ls : List D) (cut many : Int) (b : List D) (i : Int) (c d : Sc) (K : Kt) : oneRound (envOf tab Sq [] lp H5) Try.f5 1 (2) (mkF 173 [(0, .dat (.slc (.agg [.one, .one, .one]) ls)), (1, .dat (.int .i64 cut)), (5, .dat (.slc .one b)), (6, .dat (.int .i64 many)), (8, ptrS), (9, .ptr shS 1 0 []), (10, .dat (.int .i64 i))]) ([scanB c, scanB d]) K =
  (bif decide (i < many) then 
   (bif decide ((0 : Int) ≤ i) then 
    (bif decide (Int.toNat i < List.length ls) then 
     (bif okE (Ek.agg [Ek.int IntKind.u64, Ek.int IntKind.i64, Ek.str]) (nthD ls (Int.toNat i)) then 
      (bif !decide (Array.toList (ByteArray.data (D.getS (nthD (D.getL (nthD ls (Int.toNat i))) (2 : Nat)))) = []) then 
       (bif isBytes (Sc.ds d) && decide (List.length (Sc.ds d) ≤ (35184372088832 : Nat)) then 
        (bif isBytes (Sc.ds c) && decide (List.length (Sc.ds c) ≤ (35184372088832 : Nat)) then 
         (bif decide ((0 : Int) ≤ i) then 
          (bif decide (Int.toNat i < List.length ls) then 
           (bif okE (Ek.agg [Ek.int IntKind.u64, Ek.int IntKind.i64, Ek.str]) (nthD ls (Int.toNat i)) then 
            (bif D.eqb (D.bool !decide (byteVs (Sc.takes (Sc.text1 c (255 : Int)) (Sc.textN c)) = Array.toList (ByteArray.data (D.getS (nthD (D.getL (nthD ls (Int.toNat i))) (2 : Nat)))))) (D.bool false) then K (Exit.normal) (mkF (173 : Nat) [((0 : Nat), AV.dat (D.slc (Sh.agg [Sh.one, Sh.one, Sh.one]) ls)), ((1 : Nat), AV.dat (D.int IntKind.i64 cut)), ((5 : Nat), AV.dat (D.slc Sh.one b)), ((6 : Nat), AV.dat (D.int IntKind.i64 many)), ((8 : Nat), AV.ptr (Sh.agg [Sh.one, Sh.one, Sh.one]) (0 : Nat) (0 : Nat) []), ((9 : Nat), AV.ptr (Sh.agg [Sh.one, Sh.one, Sh.one]) (1 : Nat) (0 : Nat) []), ((10 : Nat), AV.dat (D.int IntKind.i64 (IntKind.wrap IntKind.i64 (i + (1 : Int))))), ((114 : Nat), AV.dat (D.int IntKind.i64 i)), ((115 : Nat), AV.dat (D.int IntKind.i64 (IntKind.wrap IntKind.i64 (i + (1 : Int)))))]) ([{ sh := Sh.agg [Sh.one, Sh.one, Sh.one], dyn := false, frz := false, v := AV.dat (D.agg [D.slc Sh.one (Sc.ds (Sc.text2 c (255 : Int))), D.int IntKind.i64 (Sc.f (Sc.text2 c (255 : Int))), D.bool (Sc.b (Sc.text2 c (255 : Int)))]) }, { sh := Sh.agg [Sh.one, Sh.one, Sh.one], dyn := false, frz := false, v := AV.dat (D.agg [D.slc Sh.one (Sc.ds (Sc.text2 d (255 : Int))), D.int IntKind.i64 (Sc.f (Sc.text2 d (255 : Int))), D.bool (Sc.b (Sc.text2 d (255 : Int)))]) }]) else none) else none) else none) else none) else none) else none) else 
       (bif decide ((0 : Int) ≤ i) then 
        (bif decide (Int.toNat i < List.length ls) then 
         (bif okE (Ek.agg [Ek.int IntKind.u64, Ek.int IntKind.i64, Ek.str]) (nthD ls (Int.toNat i)) then 
          (bif isBytes (Sc.ds d) && decide (List.length (Sc.ds d) ≤ (35184372088832 : Nat)) then 
           (bif decide ((0 : Int) ≤ i) then 
            (bif decide (Int.toNat i < List.length ls) then 
             (bif okE (Ek.agg [Ek.int IntKind.u64, Ek.int IntKind.i64, Ek.str]) (nthD ls (Int.toNat i)) then 
              (bif isBytes (Sc.ds c) && decide (List.length (Sc.ds c) ≤ (35184372088832 : Nat)) then 
               (bif decide ((0 : Int) ≤ i) then 
                (bif decide (Int.toNat i < List.length ls) then 
                 (bif okE (Ek.agg [Ek.int IntKind.u64, Ek.int IntKind.i64, Ek.str]) (nthD ls (Int.toNat i)) then 
                  (bif D.eqb (D.bool (numU (0 : Int) (Sc.takes c (fitI (D.getI (nthD (D.getL (nthD ls (Int.toNat i))) (1 : Nat))))) != D.getI (nthD (D.getL (nthD ls (Int.toNat i))) (0 : Nat)))) (D.bool false) then K (Exit.normal) (mkF (173 : Nat) [((0 : Nat), AV.dat (D.slc (Sh.agg [Sh.one, Sh.one, Sh.one]) ls)), ((1 : Nat), AV.dat (D.int IntKind.i64 cut)), ((5 : Nat), AV.dat (D.slc Sh.one b)), ((6 : Nat), AV.dat (D.int IntKind.i64 many)), ((8 : Nat), AV.ptr (Sh.agg [Sh.one, Sh.one, Sh.one]) (0 : Nat) (0 : Nat) []), ((9 : Nat), AV.ptr (Sh.agg [Sh.one, Sh.one, Sh.one]) (1 : Nat) (0 : Nat) []), ((10 : Nat), AV.dat (D.int IntKind.i64 (IntKind.wrap IntKind.i64 (i + (1 : Int))))), ((114 : Nat), AV.dat (D.int IntKind.i64 i)), ((115 : Nat), AV.dat (D.int IntKind.i64 (IntKind.wrap IntKind.i64 (i + (1 : Int)))))]) ([{ sh := Sh.agg [Sh.one, Sh.one, Sh.one], dyn := false, frz := false, v := AV.dat (D.agg [D.slc Sh.one (Sc.ds (Sc.took c (fitI (D.getI (nthD (D.getL (nthD ls (Int.toNat i))) (1 : Nat)))))), D.int IntKind.i64 (Sc.f (Sc.took c (fitI (D.getI (nthD (D.getL (nthD ls (Int.toNat i))) (1 : Nat)))))), D.bool (Sc.b (Sc.took c (fitI (D.getI (nthD (D.getL (nthD ls (Int.toNat i))) (1 : Nat))))))]) }, { sh := Sh.agg [Sh.one, Sh.one, Sh.one], dyn := false, frz := false, v := AV.dat (D.agg [D.slc Sh.one (Sc.ds (Sc.took d (fitI (D.getI (nthD (D.getL (nthD ls (Int.toNat i))) (1 : Nat)))))), D.int IntKind.i64 (Sc.f (Sc.took d (fitI (D.getI (nthD (D.getL (nthD ls (Int.toNat i))) (1 : Nat)))))), D.bool (Sc.b (Sc.took d (fitI (D.getI (nthD (D.getL (nthD ls (Int.toNat i))) (1 : Nat))))))]) }]) else none) else none) else none) else none) else none) else none) else none) else none) else none) else none) else none) else none)) else none) else none) else none) else K (Exit.exit (2 : Nat)) (mkF (173 : Nat) [((1 : Nat), AV.dat (D.int IntKind.i64 cut)), ((5 : Nat), AV.dat (D.slc Sh.one b)), ((8 : Nat), AV.ptr (Sh.agg [Sh.one, Sh.one, Sh.one]) (0 : Nat) (0 : Nat) []), ((9 : Nat), AV.ptr (Sh.agg [Sh.one, Sh.one, Sh.one]) (1 : Nat) (0 : Nat) [])]) ([{ sh := Sh.agg [Sh.one, Sh.one, Sh.one], dyn := false, frz := false, v := AV.dat (D.agg [D.slc Sh.one (Sc.ds c), D.int IntKind.i64 (Sc.f c), D.bool (Sc.b c)]) }, { sh := Sh.agg [Sh.one, Sh.one, Sh.one], dyn := false, frz := false, v := AV.dat (D.agg [D.slc Sh.one (Sc.ds d), D.int IntKind.i64 (Sc.f d), D.bool (Sc.b d)]) }])) := by kernel_rfl
theorem back2_hr (lp : Loops) (ls : List D) (cut many : Int) (b : List D) : ∀ (sA : (Int × Sc × Sc)) (K : Kt) (N : (Int × Sc × Sc) → Option Res), (∀ sB fr' σ', cleanF (liveAt Try.f5 1) 0 fr' = back2_fr ls cut many b sB → trim (2) (back2_fr ls cut many b sB) σ' = back2_st ls cut many b sB → K .normal fr' σ' = N sB) →
    oneRound (envOf tab Sq [] lp H5) Try.f5 1 (2) (back2_fr ls cut many b sA) (back2_st ls cut many b sA) K = (back2_step ls cut many b sA).k (LK K N) := by
  intro sA K N hN
  obtain ⟨i, c, d⟩ := sA
  exact (back2_round lp ls cut many b i c d K).trans (cong2 (cong2 (cong2 (cong2 (cong2 (cong2 (cong2 (cong2 (cong2 (cong2 (cong2 (hN ((IntKind.wrap IntKind.i64 (i + (1 : Int))), (Sc.text2 c (255 : Int)), (Sc.text2 d (255 : Int))) _ _ (by kernel_rfl) (by kernel_rfl)) rfl) rfl) rfl) rfl) rfl) rfl) (cong2 (cong2 (cong2 (cong2 (cong2 (cong2 (cong2 (cong2 (cong2 (cong2 (cong2 (cong2 (hN ((IntKind.wrap IntKind.i64 (i + (1 : Int))), (Sc.took c (fitI (D.getI (nthD (D.getL (nthD ls (Int.toNat i))) (1 : Nat))))), (Sc.took d (fitI (D.getI (nthD (D.getL (nthD ls (Int.toNat i))) (1 : Nat)))))) _ _ (by kernel_rfl) (by kernel_rfl)) rfl) rfl) rfl) rfl) rfl) rfl) rfl) rfl) rfl) rfl) rfl) rfl)) rfl) rfl) rfl) rfl)
theorem back2_enter (ls : List D) (cut many : Int) (b : List D) (i : Int) (c d : Sc) (fr : Frame') (hl : Nat.beq fr.length 173 = true) (g0 : fr.getD 0 .undef = AV.dat (D.slc (Sh.agg [Sh.one, Sh.one, Sh.one]) ls)) (g1 : fr.getD 1 .undef = AV.dat (D.int IntKind.i64 cut)) (g5 : fr.getD 5 .undef = AV.dat (D.slc Sh.one b)) (g6 : fr.getD 6 .undef = AV.dat (D.int IntKind.i64 many)) (g8 : fr.getD 8 .undef = AV.ptr (Sh.agg [Sh.one, Sh.one, Sh.one]) 0 0 []) (g9 : fr.getD 9 .undef = AV.ptr (Sh.agg [Sh.one, Sh.one, Sh.one]) 1 0 []) (g10 : fr.getD 10 .undef = AV.dat (D.int IntKind.i64 i)) : cleanF (liveAt Try.f5 1) 0 fr = back2_fr ls cut many b (i, c, d) := by
  have e : liveAt Try.f5 1 = [6, 0, 10, 8, 1, 5, 9] := by kernel_rfl
  rw [clean_mk (Nat.eq_of_beq_eq_true hl), e]
  show mkF 173 [(6, fr.getD 6 .undef), (0, fr.getD 0 .undef), (10, fr.getD 10 .undef), (8, fr.getD 8 .undef), (1, fr.getD 1 .undef), (5, fr.getD 5 .undef), (9, fr.getD 9 .undef)] = _
  rw [g6, g0, g10, g8, g1, g5, g9]
  kernel_rfl


def back3_fr (ls : List D) (cut many : Int) (b _ : List D) (_ : Int) (_ : Bool) : (Int × Sc × Sc) → Frame' := fun ⟨i, _, _⟩ => mkF 173 [(0, .dat (.slc (.agg [.one, .one, .one]) ls)), (1, .dat (.int .i64 cut)), (5, .dat (.slc .one b)), (6, .dat (.int .i64 many)), (8, ptrS), (9, .ptr shS 2 0 []), (10, .dat (.int .i64 i))]
def back3_st (_ : List D) (_ _ : Int) (_ zd : List D) (zf : Int) (zb : Bool) : (Int × Sc × Sc) → Store := fun ⟨_, c, d⟩ => [scanB c, scanB ⟨zd, zf, zb⟩, scanB d]
def back3_step (ls : List D) (cut many : Int) (b zd : List D) (zf : Int) (zb : Bool) : (Int × Sc × Sc) → T ((Int × Sc × Sc) ⊕ LOut) := fun ⟨i, c, d⟩ => 
  .br (decide (i < many)) (
   .chk (decide ((0 : Int) ≤ i)) (
    .chk (decide (Int.toNat i < List.length ls)) (
     .chk (okE (Ek.agg [Ek.int IntKind.u64, Ek.int IntKind.i64, Ek.str]) (nthD ls (Int.toNat i))) (
      .br (!decide (Array.toList (ByteArray.data (D.getS (nthD (D.getL (nthD ls (Int.toNat i))) (2 : Nat)))) = [])) (
       .chk (isBytes (Sc.ds d) && decide (List.length (Sc.ds d) ≤ (35184372088832 : Nat))) (
        .chk (isBytes (Sc.ds c) && decide (List.length (Sc.ds c) ≤ (35184372088832 : Nat))) (
         .chk (decide ((0 : Int) ≤ i)) (
          .chk (decide (Int.toNat i < List.length ls)) (
           .chk (okE (Ek.agg [Ek.int IntKind.u64, Ek.int IntKind.i64, Ek.str]) (nthD ls (Int.toNat i))) (
            .chk (D.eqb (D.bool !decide (byteVs (Sc.takes (Sc.text1 c (255 : Int)) (Sc.textN c)) = Array.toList (ByteArray.data (D.getS (nthD (D.getL (nthD ls (Int.toNat i))) (2 : Nat)))))) (D.bool false)) (.leaf (.inl ((IntKind.wrap IntKind.i64 (i + (1 : Int))), (Sc.text2 c (255 : Int)), (Sc.text2 d (255 : Int))))))))))) (
       .chk (decide ((0 : Int) ≤ i)) (
        .chk (decide (Int.toNat i < List.length ls)) (
         .chk (okE (Ek.agg [Ek.int IntKind.u64, Ek.int IntKind.i64, Ek.str]) (nthD ls (Int.toNat i))) (
          .chk (isBytes (Sc.ds d) && decide (List.length (Sc.ds d) ≤ (35184372088832 : Nat))) (
           .chk (decide ((0 : Int) ≤ i)) (
            .chk (decide (Int.toNat i < List.length ls)) (
             .chk (okE (Ek.agg [Ek.int IntKind.u64, Ek.int IntKind.i64, Ek.str]) (nthD ls (Int.toNat i))) (
              .chk (isBytes (Sc.ds c) && decide (List.length (Sc.ds c) ≤ (35184372088832 : Nat))) (
               .chk (decide ((0 : Int) ≤ i)) (
                .chk (decide (Int.toNat i < List.length ls)) (
                 .chk (okE (Ek.agg [Ek.int IntKind.u64, Ek.int IntKind.i64, Ek.str]) (nthD ls (Int.toNat i))) (
                  .chk (D.eqb (D.bool (numU (0 : Int) (Sc.takes c (fitI (D.getI (nthD (D.getL (nthD ls (Int.toNat i))) (1 : Nat))))) != D.getI (nthD (D.getL (nthD ls (Int.toNat i))) (0 : Nat)))) (D.bool false)) (.leaf (.inl ((IntKind.wrap IntKind.i64 (i + (1 : Int))), (Sc.took c (fitI (D.getI (nthD (D.getL (nthD ls (Int.toNat i))) (1 : Nat))))), (Sc.took d (fitI (D.getI (nthD (D.getL (nthD ls (Int.toNat i))) (1 : Nat)))))))))))))))))))))))) (.leaf (.inr ((some (2 : Nat)), mkF (173 : Nat) [((1 : Nat), AV.dat (D.int IntKind.i64 cut)), ((5 : Nat), AV.dat (D.slc Sh.one b)), ((8 : Nat), AV.ptr (Sh.agg [Sh.one, Sh.one, Sh.one]) (0 : Nat) (0 : Nat) []), ((9 : Nat), AV.ptr (Sh.agg [Sh.one, Sh.one, Sh.one]) (2 : Nat) (0 : Nat) [])], [{ sh := Sh.agg [Sh.one, Sh.one, Sh.one], dyn := false, frz := false, v := AV.dat (D.agg [D.slc Sh.one (Sc.ds c), D.int IntKind.i64 (Sc.f c), D.bool (Sc.b c)]) }, { sh := Sh.agg [Sh.one, Sh.one, Sh.one], dyn := false, frz := false, v := AV.dat (D.agg [D.slc Sh.one zd, D.int IntKind.i64 zf, D.bool zb]) }, { sh := Sh.agg [Sh.one, Sh.one, Sh.one], dyn := false, frz := false, v := AV.dat (D.agg [D.slc Sh.one (Sc.ds d), D.int IntKind.i64 (Sc.f d), D.bool (Sc.b d)]) }])))
theorem back3_round (lp : Loops) (ls : List D) (cut many : Int) (b zd : List D) (zf : Int) (zb : Bool) (i : Int) (c d : Sc) (K : Kt) : oneRound (envOf tab Sq [] lp H5) Try.f5 1 (3) (mkF 173 [(0, .dat (.slc (.agg [.one, .one, .one]) ls)), (1, .dat (.int .i64 cut)), (5, .dat (.slc .one b)), (6, .dat (.int .i64 many)), (8, ptrS), (9, .ptr shS 2 0 []), (10, .dat (.int .i64 i))]) ([scanB c, scanB ⟨zd, zf, zb⟩, scanB d]) K =
  (bif decide (i < many) then 
   (bif decide ((0 : Int) ≤ i) then 
    (bif decide (Int.toNat i < List.length ls) then 
     (bif okE (Ek.agg [Ek.int IntKind.u64, Ek.int IntKind.i64, Ek.str]) (nthD ls (Int.toNat i)) then 
      (bif !decide (Array.toList (ByteArray.data (D.getS (nthD (D.getL (nthD ls (Int.toNat i))) (2 : Nat)))) = []) then 
       (bif isBytes (Sc.ds d) && decide (List.length (Sc.ds d) ≤ (35184372088832 : Nat)) then 
        (bif isBytes (Sc.ds c) && decide (List.length (Sc.ds c) ≤ (35184372088832 : Nat)) then 
         (bif decide ((0 : Int) ≤ i) then 
          (bif decide (Int.toNat i < List.length ls) then 
           (bif okE (Ek.agg [Ek.int IntKind.u64, Ek.int IntKind.i64, Ek.str]) (nthD ls (Int.toNat i)) then 
            (bif D.eqb (D.bool !decide (byteVs (Sc.takes (Sc.text1 c (255 : Int)) (Sc.textN c)) = Array.toList (ByteArray.data (D.getS (nthD (D.getL (nthD ls (Int.toNat i))) (2 : Nat)))))) (D.bool false) then K (Exit.normal) (mkF (173 : Nat) [((0 : Nat), AV.dat (D.slc (Sh.agg [Sh.one, Sh.one, Sh.one]) ls)), ((1 : Nat), AV.dat (D.int IntKind.i64 cut)), ((5 : Nat), AV.dat (D.slc Sh.one b)), ((6 : Nat), AV.dat (D.int IntKind.i64 many)), ((8 : Nat), AV.ptr (Sh.agg [Sh.one, Sh.one, Sh.one]) (0 : Nat) (0 : Nat) []), ((9 : Nat), AV.ptr (Sh.agg [Sh.one, Sh.one, Sh.one]) (2 : Nat) (0 : Nat) []), ((10 : Nat), AV.dat (D.int IntKind.i64 (IntKind.wrap IntKind.i64 (i + (1 : Int))))), ((114 : Nat), AV.dat (D.int IntKind.i64 i)), ((115 : Nat), AV.dat (D.int IntKind.i64 (IntKind.wrap IntKind.i64 (i + (1 : Int)))))]) ([{ sh := Sh.agg [Sh.one, Sh.one, Sh.one], dyn := false, frz := false, v := AV.dat (D.agg [D.slc Sh.one (Sc.ds (Sc.text2 c (255 : Int))), D.int IntKind.i64 (Sc.f (Sc.text2 c (255 : Int))), D.bool (Sc.b (Sc.text2 c (255 : Int)))]) }, { sh := Sh.agg [Sh.one, Sh.one, Sh.one], dyn := false, frz := false, v := AV.dat (D.agg [D.slc Sh.one zd, D.int IntKind.i64 zf, D.bool zb]) }, { sh := Sh.agg [Sh.one, Sh.one, Sh.one], dyn := false, frz := false, v := AV.dat (D.agg [D.slc Sh.one (Sc.ds (Sc.text2 d (255 : Int))), D.int IntKind.i64 (Sc.f (Sc.text2 d (255 : Int))), D.bool (Sc.b (Sc.text2 d (255 : Int)))]) }]) else none) else none) else none) else none) else none) else none) else 
       (bif decide ((0 : Int) ≤ i) then 
        (bif decide (Int.toNat i < List.length ls) then 
         (bif okE (Ek.agg [Ek.int IntKind.u64, Ek.int IntKind.i64, Ek.str]) (nthD ls (Int.toNat i)) then 
          (bif isBytes (Sc.ds d) && decide (List.length (Sc.ds d) ≤ (35184372088832 : Nat)) then 
           (bif decide ((0 : Int) ≤ i) then 
            (bif decide (Int.toNat i < List.length ls) then 
             (bif okE (Ek.agg [Ek.int IntKind.u64, Ek.int IntKind.i64, Ek.str]) (nthD ls (Int.toNat i)) then 
              (bif isBytes (Sc.ds c) && decide (List.length (Sc.ds c) ≤ (35184372088832 : Nat)) then 
               (bif decide ((0 : Int) ≤ i) then 
                (bif decide (Int.toNat i < List.length ls) then 
                 (bif okE (Ek.agg [Ek.int IntKind.u64, Ek.int IntKind.i64, Ek.str]) (nthD ls (Int.toNat i)) then 
                  (bif D.eqb (D.bool (numU (0 : Int) (Sc.takes c (fitI (D.getI (nthD (D.getL (nthD ls (Int.toNat i))) (1 : Nat))))) != D.getI (nthD (D.getL (nthD ls (Int.toNat i))) (0 : Nat)))) (D.bool false) then K (Exit.normal) (mkF (173 : Nat) [((0 : Nat), AV.dat (D.slc (Sh.agg [Sh.one, Sh.one, Sh.one]) ls)), ((1 : Nat), AV.dat (D.int IntKind.i64 cut)), ((5 : Nat), AV.dat (D.slc Sh.one b)), ((6 : Nat), AV.dat (D.int IntKind.i64 many)), ((8 : Nat), AV.ptr (Sh.agg [Sh.one, Sh.one, Sh.one]) (0 : Nat) (0 : Nat) []), ((9 : Nat), AV.ptr (Sh.agg [Sh.one, Sh.one, Sh.one]) (2 : Nat) (0 : Nat) []), ((10 : Nat), AV.dat (D.int IntKind.i64 (IntKind.wrap IntKind.i64 (i + (1 : Int))))), ((114 : Nat), AV.dat (D.int IntKind.i64 i)), ((115 : Nat), AV.dat (D.int IntKind.i64 (IntKind.wrap IntKind.i64 (i + (1 : Int)))))]) ([{ sh := Sh.agg [Sh.one, Sh.one, Sh.one], dyn := false, frz := false, v := AV.dat (D.agg [D.slc Sh.one (Sc.ds (Sc.took c (fitI (D.getI (nthD (D.getL (nthD ls (Int.toNat i))) (1 : Nat)))))), D.int IntKind.i64 (Sc.f (Sc.took c (fitI (D.getI (nthD (D.getL (nthD ls (Int.toNat i))) (1 : Nat)))))), D.bool (Sc.b (Sc.took c (fitI (D.getI (nthD (D.getL (nthD ls (Int.toNat i))) (1 : Nat))))))]) }, { sh := Sh.agg [Sh.one, Sh.one, Sh.one], dyn := false, frz := false, v := AV.dat (D.agg [D.slc Sh.one zd, D.int IntKind.i64 zf, D.bool zb]) }, { sh := Sh.agg [Sh.one, Sh.one, Sh.one], dyn := false, frz := false, v := AV.dat (D.agg [D.slc Sh.one (Sc.ds (Sc.took d (fitI (D.getI (nthD (D.getL (nthD ls (Int.toNat i))) (1 : Nat)))))), D.int IntKind.i64 (Sc.f (Sc.took d (fitI (D.getI (nthD (D.getL (nthD ls (Int.toNat i))) (1 : Nat)))))), D.bool (Sc.b (Sc.took d (fitI (D.getI (nthD (D.getL (nthD ls (Int.toNat i))) (1 : Nat))))))]) }]) else none) else none) else none) else none) else none) else none) else none) else none) else none) else none) else none) else none)) else none) else none) else none) else K (Exit.exit (2 : Nat)) (mkF (173 : Nat) [((1 : Nat), AV.dat (D.int IntKind.i64 cut)), ((5 : Nat), AV.dat (D.slc Sh.one b)), ((8 : Nat), AV.ptr (Sh.agg [Sh.one, Sh.one, Sh.one]) (0 : Nat) (0 : Nat) []), ((9 : Nat), AV.ptr (Sh.agg [Sh.one, Sh.one, Sh.one]) (2 : Nat) (0 : Nat) [])]) ([{ sh := Sh.agg [Sh.one, Sh.one, Sh.one], dyn := false, frz := false, v := AV.dat (D.agg [D.slc Sh.one (Sc.ds c), D.int IntKind.i64 (Sc.f c), D.bool (Sc.b c)]) }, { sh := Sh.agg [Sh.one, Sh.one, Sh.one], dyn := false, frz := false, v := AV.dat (D.agg [D.slc Sh.one zd, D.int IntKind.i64 zf, D.bool zb]) }, { sh := Sh.agg [Sh.one, Sh.one, Sh.one], dyn := false, frz := false, v := AV.dat (D.agg [D.slc Sh.one (Sc.ds d), D.int IntKind.i64 (Sc.f d), D.bool (Sc.b d)]) }])) := by kernel_rfl
theorem back3_hr (lp : Loops) (ls : List D) (cut many : Int) (b zd : List D) (zf : Int) (zb : Bool) : ∀ (sA : (Int × Sc × Sc)) (K : Kt) (N : (Int × Sc × Sc) → Option Res), (∀ sB fr' σ', cleanF (liveAt Try.f5 1) 0 fr' = back3_fr ls cut many b zd zf zb sB → trim (3) (back3_fr ls cut many b zd zf zb sB) σ' = back3_st ls cut many b zd zf zb sB → K .normal fr' σ' = N sB) →
    oneRound (envOf tab Sq [] lp H5) Try.f5 1 (3) (back3_fr ls cut many b zd zf zb sA) (back3_st ls cut many b zd zf zb sA) K = (back3_step ls cut many b zd zf zb sA).k (LK K N) := by
  intro sA K N hN
  obtain ⟨i, c, d⟩ := sA
  exact (back3_round lp ls cut many b zd zf zb i c d K).trans (cong2 (cong2 (cong2 (cong2 (cong2 (cong2 (cong2 (cong2 (cong2 (cong2 (cong2 (hN ((IntKind.wrap IntKind.i64 (i + (1 : Int))), (Sc.text2 c (255 : Int)), (Sc.text2 d (255 : Int))) _ _ (by kernel_rfl) (by kernel_rfl)) rfl) rfl) rfl) rfl) rfl) rfl) (cong2 (cong2 (cong2 (cong2 (cong2 (cong2 (cong2 (cong2 (cong2 (cong2 (cong2 (cong2 (hN ((IntKind.wrap IntKind.i64 (i + (1 : Int))), (Sc.took c (fitI (D.getI (nthD (D.getL (nthD ls (Int.toNat i))) (1 : Nat))))), (Sc.took d (fitI (D.getI (nthD (D.getL (nthD ls (Int.toNat i))) (1 : Nat)))))) _ _ (by kernel_rfl) (by kernel_rfl)) rfl) rfl) rfl) rfl) rfl) rfl) rfl) rfl) rfl) rfl) rfl) rfl)) rfl) rfl) rfl) rfl)
theorem back3_enter (ls : List D) (cut many : Int) (b zd : List D) (zf : Int) (zb : Bool) (i : Int) (c d : Sc) (fr : Frame') (hl : Nat.beq fr.length 173 = true) (g0 : fr.getD 0 .undef = AV.dat (D.slc (Sh.agg [Sh.one, Sh.one, Sh.one]) ls)) (g1 : fr.getD 1 .undef = AV.dat (D.int IntKind.i64 cut)) (g5 : fr.getD 5 .undef = AV.dat (D.slc Sh.one b)) (g6 : fr.getD 6 .undef = AV.dat (D.int IntKind.i64 many)) (g8 : fr.getD 8 .undef = AV.ptr (Sh.agg [Sh.one, Sh.one, Sh.one]) 0 0 []) (g9 : fr.getD 9 .undef = AV.ptr (Sh.agg [Sh.one, Sh.one, Sh.one]) 2 0 []) (g10 : fr.getD 10 .undef = AV.dat (D.int IntKind.i64 i)) : cleanF (liveAt Try.f5 1) 0 fr = back3_fr ls cut many b zd zf zb (i, c, d) := by
  have e : liveAt Try.f5 1 = [6, 0, 10, 8, 1, 5, 9] := by kernel_rfl
  rw [clean_mk (Nat.eq_of_beq_eq_true hl), e]
  show mkF 173 [(6, fr.getD 6 .undef), (0, fr.getD 0 .undef), (10, fr.getD 10 .undef), (8, fr.getD 8 .undef), (1, fr.getD 1 .undef), (5, fr.getD 5 .undef), (9, fr.getD 9 .undef)] = _
  rw [g6, g0, g10, g8, g1, g5, g9]
  kernel_rfl


abbrev ekP : Ek := .agg [.int .u64, .int .i64, .str]
def okPB (d : D) : Bool := okE ekP d && decide (IntKind.wrap .u64 (pN d) = pN d)
def okLP (ls : List D) : Bool := ls.all okPB && decide (ls.length ≤ 2 ^ 40)
theorem okLP_spec {ls : List D} (h : okLP ls = true) : ls.all okPB = true ∧ ls.length ≤ 2 ^ 40 := by
  unfold okLP at h
  simpa only [Bool.and_eq_true, decide_eq_true_eq] using h
theorem okPB_spec {d : D} (h : okPB d = true) : okE ekP d = true ∧ 0 ≤ pN d ∧ pN d < 2 ^ 64 := by
  unfold okPB at h
  simp only [Bool.and_eq_true, decide_eq_true_eq] at h
  obtain ⟨h1, h2⟩ := h
  rw [IntKind.wrap_u64] at h2
  exact ⟨h1, by omega, by omega⟩
theorem okP_mk {d : D} (h : okPB d = true) (hb : badP d = false) : OkP d := by
  obtain ⟨h1, h2, h3⟩ := okPB_spec h
  exact ⟨h1, h2, h3, hb⟩

def encTo (ls : List D) (i : Nat) : List D := (ls.take i).flatMap encP
theorem encTo_succ {ls : List D} {i : Nat} (h : i < ls.length) : encTo ls (i + 1) = encTo ls i ++ encP (nthD ls i) := by
  unfold encTo
  rw [take_succ_nth h, List.flatMap_append, List.flatMap_singleton]
theorem encP_len {d : D} (h : OkP d) : (encP d).length ≤ 256 := by
  obtain ⟨h1, h2, h3, _⟩ := okP_spec h
  unfold encP
  cases pT d with
  | true => rw [cond_true, textD_of h3, List.length_cons, bytesD_length]; omega
  | false => rw [cond_false, numB_length, fit_of h1 h2]; omega
theorem encP_bytes (d : D) : isBytes (encP d) = true := by
  unfold encP
  cases pT d with
  | true => exact isBytes_textD _
  | false => exact isBytes_numB _ _
theorem encTo_bytes (ls : List D) (i : Nat) : isBytes (encTo ls i) = true := by
  unfold encTo isBytes
  rw [List.all_flatMap, List.all_eq_true]
  intro d _
  exact encP_bytes d
theorem encTo_len {ls : List D} (h : okLP ls = true) : ∀ i : Nat, i ≤ ls.length → (∀ j, j < i → badP (nthD ls j) = false) → (encTo ls i).length ≤ 256 * i
  | 0, _, _ => by simp [encTo]
  | i + 1, hi, hb => by
    rw [encTo_succ (by omega), List.length_append]
    have h1 := encTo_len h i (by omega) fun j hj => hb j (by omega)
    have h2 := encP_len (okP_mk (allD h (by omega)) (hb i (by omega)))
    omega
where allD {ls : List D} (h : okLP ls = true) {i : Nat} (hi : i < ls.length) : okPB (nthD ls i) = true := List.all_eq_true.1 (okLP_spec h).1 _ (nthD_mem hi)

abbrev few (ls : List D) : Nat := min ls.length 50
def anyBad (ls : List D) : Bool := (List.range (few ls)).any fun i => badP (nthD ls i)

theorem back1_closed (ls : List D) (cut : Int) (hc : okLP ls = true) :
    ∃ k, (iterT (back1_step ls cut) k (0, 0, [])).run = T.run (.br (anyBad ls) (.leaf (none, mkF 173 [(4, .dat (.bool true))], [])) (.leaf (some 0, mkF 173 [(0, .dat (.slc (.agg [.one, .one, .one]) ls)), (1, .dat (.int .i64 cut)), (5, .dat (.slc .one (encTo ls (few ls)))), (6, .dat (.int .i64 (few ls : Nat)))], []))) := by
  have hlen := (okLP_spec hc).2
  obtain ⟨k, hk⟩ := iter_upto (step := back1_step ls cut) (n := few ls) (o := (none, mkF 173 [(4, .dat (.bool true))], [])) (o' := (some 0, mkF 173 [(0, .dat (.slc (.agg [.one, .one, .one]) ls)), (1, .dat (.int .i64 cut)), (5, .dat (.slc .one (encTo ls (few ls)))), (6, .dat (.int .i64 (few ls : Nat)))], []))
    (fun i => ((i : Int), encTo ls i)) (fun i => badP (nthD ls i)) (fun i hi hb => by
      have hf : few ls = min ls.length 50 := rfl
      have hi1 : i < ls.length := by omega
      have hP := encTo_len.allD hc hi1
      obtain ⟨q1, q2, q3⟩ := okPB_spec hP
      have hl := encTo_len hc i (by omega) hb
      have c1 := isBytes_fits (encTo_bytes ls i)
      have c2 : decide ((encTo ls i).length + 300 ≤ 35184372088832) = true := decide_eq_true (by omega)
      have c3 : decide ((encTo ls i).length + 8 ≤ 35184372088832) = true := decide_eq_true (by omega)
      unfold back1_step
      simp only [decide_eq_true (show (i : Int) < (ls.length : Int) by omega), decide_eq_true (show (i : Int) < 50 by omega), decide_eq_true (show (0 : Int) ≤ (i : Int) by omega), Int.toNat_natCast, decide_eq_true hi1, q1, wrap_succ (show i < 2 ^ 62 by omega), c1, c2, c3, decide_eq_true q2, encTo_succ hi1]
      unfold badP encP pT
      cases g1 : decide (pK (nthD ls i) < 1) with
      | true => rfl
      | false =>
        cases g2 : decide (pK (nthD ls i) > 8) with
        | true => rfl
        | false =>
          cases g3 : decide ((ByteArray.size (pS (nthD ls i)) : Int) > 255) with
          | true => rfl
          | false =>
            have g1' := of_decide_eq_false g1
            have g2' := of_decide_eq_false g2
            have g6 : decide (0 ≤ IntKind.wrap .i64 (8 * pK (nthD ls i))) = true := decide_eq_true (by rw [IntKind.wrap_i64]; omega)
            cases g4 : decide (pK (nthD ls i) < 8) with
            | true =>
              cases g5 : (Int.fdiv (pN (nthD ls i)) (2 ^ min (IntKind.wrap .i64 (8 * pK (nthD ls i))).toNat 64) != 0) with
              | true => simp only [g6]; rfl
              | false =>
                simp only [g6]
                cases (!decide (Array.toList (ByteArray.data (pS (nthD ls i))) = [])) <;> rfl
            | false => cases (!decide (Array.toList (ByteArray.data (pS (nthD ls i))) = [])) <;> rfl)
    (fun _ => by
      have hf : few ls = min ls.length 50 := rfl
      unfold back1_step
      by_cases h : few ls < ls.length
      · simp only [decide_eq_true (show ((few ls : Nat) : Int) < (ls.length : Int) by omega), decide_eq_false (show ¬ ((few ls : Nat) : Int) < 50 by omega)]
        rfl
      · simp only [decide_eq_false (show ¬ ((few ls : Nat) : Int) < (ls.length : Int) by omega)]
        rfl)
  refine ⟨k, hk.trans ?_⟩
  show some (bif anyBad ls then _ else _) = _
  cases anyBad ls <;> rfl

def L_back1 : Frame' → Store → T (Exit × Frame' × Store) := fun fr σ => match fr.getD 0 .undef, fr.getD 1 .undef, fr.getD 5 .undef, fr.getD 6 .undef, fr.getD 7 .undef, σ with
  | AV.dat (D.slc (Sh.agg [Sh.one, Sh.one, Sh.one]) ls), AV.dat (D.int IntKind.i64 cut), AV.dat (D.slc Sh.one []), AV.dat (D.int IntKind.i64 0), AV.dat (D.int IntKind.i64 0), [] => .chk (Nat.beq fr.length 173 && (okLP ls)) (T.bind (.br (anyBad ls) (.leaf (none, mkF 173 [(4, .dat (.bool true))], [])) (.leaf (some 0, mkF 173 [(0, .dat (.slc (.agg [.one, .one, .one]) ls)), (1, .dat (.int .i64 cut)), (5, .dat (.slc .one (encTo ls (few ls)))), (6, .dat (.int .i64 (few ls : Nat)))], []))) fun o => .leaf (outEx o.1, o.2.1, o.2.2))
  | _, _, _, _, _, _ => .fail
theorem back1_sem (lp : Loops) : ∀ fr σ p, (L_back1 fr σ).run = some p → ∀ (K : Kt) r, K p.1 p.2.1 p.2.2 = some r → ∃ n, loopRun (envOf tab Sq [] lp H5) Try.f5 0 σ.length n (cleanF (liveAt Try.f5 0) 0 fr) σ K = some r := by
  intro fr σ p h K r hK
  unfold L_back1 at h
  split at h
  · rename_i ls cut g0 g1 g5 g6 g7
    obtain ⟨hc, h'⟩ := T.chk_some h
    rw [Bool.and_eq_true] at hc
    obtain ⟨hl, hc⟩ := hc
    obtain ⟨o, ho, h'⟩ := T.bind_some h'
    have hp := T.leaf_some h'
    subst hp
    obtain ⟨nF, hn⟩ : ∃ nF, (iterT (back1_step ls cut) nF ((0, 0, []))).run = T.run (.br (anyBad ls) (.leaf (none, mkF 173 [(4, .dat (.bool true))], [])) (.leaf (some 0, mkF 173 [(0, .dat (.slc (.agg [.one, .one, .one]) ls)), (1, .dat (.int .i64 cut)), (5, .dat (.slc .one (encTo ls (few ls)))), (6, .dat (.int .i64 (few ls : Nat)))], []))) := back1_closed ls cut hc
    rw [ho] at hn
    refine ⟨nF, ?_⟩
    have he : cleanF (liveAt Try.f5 0) 0 fr = back1_fr ls cut ((0, 0, [])) := back1_enter ls cut _ _ _ fr hl g0 g1 g5 g6 g7
    refine (iter_ok (base := 0) (back1_hr lp ls cut) K nF ((0, 0, [])) _ _ (by rw [clean_clean]; exact he) (by kernel_rfl)).trans ?_
    rw [T.k_run hn]
    exact hK
  · simp [T.run_fail] at h
theorem back1_loopOk (lp : Loops) (hk : Loops.get lp 4 = some L_back1) : LoopOk (envOf tab Sq [] lp H5) (loopAt Try.f5 0).1 (loopAt Try.f5 0).2 := loop_ok (L := L_back1) hk (back1_sem lp)


theorem ok_scanP (d : D) {s : Sc} (h : s.ok = true) : (scanP d s).ok = true := by
  unfold scanP
  cases pT d with
  | true => exact Sc.ok_took _ (Sc.ok_rule _ _ (Sc.ok_took _ h))
  | false => exact Sc.ok_took _ h
def scanTo (ls : List D) (i : Nat) (s : Sc) : Sc := (ls.take i).foldl (fun s d => scanP d s) s
theorem scanTo_succ {ls : List D} {i : Nat} (h : i < ls.length) (s : Sc) : scanTo ls (i + 1) s = scanP (nthD ls i) (scanTo ls i s) := by
  unfold scanTo
  rw [take_succ_nth h, List.foldl_append]; rfl
theorem ok_scanTo (ls : List D) {s : Sc} (h : s.ok = true) : ∀ i, i ≤ ls.length → (scanTo ls i s).ok = true
  | 0, _ => h
  | i + 1, hi => by rw [scanTo_succ (by omega)]; exact ok_scanP _ (ok_scanTo ls h i (by omega))
def encFrom (ls : List D) (i n : Nat) : List D := ((ls.take n).drop i).flatMap encP
theorem encFrom_cons {ls : List D} {i n : Nat} (hi : i < n) (hn : n ≤ ls.length) : encFrom ls i n = encP (nthD ls i) ++ encFrom ls (i + 1) n := by
  unfold encFrom
  rw [drop_cons_nth (by rw [List.length_take]; omega), List.flatMap_cons]
  congr 2
  unfold nthD
  rw [List.getD_eq_getElem?_getD, List.getD_eq_getElem?_getD, List.getElem?_take_of_lt (by omega)]
theorem encFrom_end (ls : List D) (n : Nat) : encFrom ls n n = [] := by
  unfold encFrom
  rw [List.drop_eq_nil_of_le (by rw [List.length_take]; omega)]; rfl
theorem encFrom_bytes (ls : List D) (i n : Nat) : isBytes (encFrom ls i n) = true := by
  unfold encFrom isBytes
  rw [List.all_flatMap, List.all_eq_true]
  intro d _
  exact encP_bytes d
theorem encFrom_len {ls : List D} (n : Nat) (hn : n ≤ ls.length) (h : okLP ls = true) (hb : ∀ j, j < n → badP (nthD ls j) = false) : ∀ k i : Nat, i + k = n → (encFrom ls i n).length ≤ 256 * k
  | 0, i, hi => by
    have : i = n := by omega
    subst this
    rw [encFrom_end]; simp
  | k + 1, i, hi => by
    rw [encFrom_cons (by omega) hn, List.length_append]
    have h1 := encFrom_len n hn h hb k (i + 1) (by omega)
    have h2 := encP_len (okP_mk (encTo_len.allD h (by omega)) (hb i (by omega)))
    omega

def okB5 (ls x y : List D) : Bool := okLP ls && !anyBad ls && D.eqbL x (encTo ls (few ls)) && D.eqbL y (x.take y.length)
theorem okB5_spec {ls x y : List D} (h : okB5 ls x y = true) : okLP ls = true ∧ (∀ j, j < few ls → badP (nthD ls j) = false) ∧ x = encTo ls (few ls) ∧ y = x.take y.length := by
  unfold okB5 at h
  simp only [Bool.and_eq_true, Bool.not_eq_true'] at h
  obtain ⟨⟨⟨h1, h2⟩, h3⟩, h4⟩ := h
  refine ⟨h1, fun j hj => ?_, D.eqL_of_eqb h3, D.eqL_of_eqb h4⟩
  unfold anyBad at h2
  rw [List.any_eq_false] at h2
  have := h2 j (List.mem_range.2 hj)
  simpa using this
theorem enc_few_len {ls : List D} (h : okLP ls = true) (hb : ∀ j, j < few ls → badP (nthD ls j) = false) : (encTo ls (few ls)).length ≤ 12800 := by
  have hf : few ls = min ls.length 50 := rfl
  have := encTo_len h (few ls) (by omega) hb
  omega

/-- One round of the second loop, in plain words. -/
theorem back2_round' {ls : List D} (hls : okLP ls = true) (hb : ∀ j, j < few ls → badP (nthD ls j) = false) {s : Sc} (hs : s.ok = true) (i : Nat) (hi : i < few ls) :
    decide ((i : Int) < ((few ls : Nat) : Int)) = true ∧ decide ((0 : Int) ≤ (i : Int)) = true ∧ decide (Int.toNat (i : Int) < ls.length) = true ∧ okE ekP (nthD ls i) = true ∧
    (isBytes (scanTo ls i s).ds && decide ((scanTo ls i s).ds.length ≤ 35184372088832)) = true ∧ (isBytes (encFrom ls i (few ls)) && decide ((encFrom ls i (few ls)).length ≤ 35184372088832)) = true := by
  have hf : few ls = min ls.length 50 := rfl
  obtain ⟨q1, _, _⟩ := okPB_spec (encTo_len.allD hls (show i < ls.length by omega))
  have h5 := ok_scanTo ls hs i (by omega)
  have h6 := encFrom_len (few ls) (by omega) hls hb (few ls - i) i (by omega)
  refine ⟨decide_eq_true (by omega), decide_eq_true (by omega), decide_eq_true (by rw [Int.toNat_natCast]; omega), q1, h5, ?_⟩
  rw [encFrom_bytes, decide_eq_true (by omega)]; rfl

theorem back2_closed (ls x y : List D) (cut many : Int) (b : List D) (hc : (decide (many = ((few ls : Nat) : Int)) && okB5 ls x y) = true) :
    ∃ k, (iterT (back2_step ls cut many b) k (0, mk x, mk y)).run = T.run (.leaf (some 2, mkF 173 [(1, .dat (.int .i64 cut)), (5, .dat (.slc .one b)), (8, ptrS), (9, .ptr shS 1 0 [])], [scanB (mk []), scanB (scanTo ls (few ls) (mk y))])) := by
  rw [Bool.and_eq_true, decide_eq_true_eq] at hc
  obtain ⟨rfl, hc⟩ := hc
  obtain ⟨hls, hb, hx, hy⟩ := okB5_spec hc
  have hf : few ls = min ls.length 50 := rfl
  have hlx := enc_few_len hls hb
  have hby : (mk y).ok = true := by
    have h1 : isBytes y = true := by rw [hy, hx]; exact isBytes_take _ (encTo_bytes ls _)
    have h2 : y.length ≤ x.length := by
      have := congrArg List.length hy
      rw [List.length_take] at this; omega
    show (isBytes y && decide (y.length ≤ LIM)) = true
    rw [h1, decide_eq_true (by unfold LIM; rw [hx] at h2; omega)]; rfl
  have h0 : x = encFrom ls 0 (few ls) := by rw [hx]; rfl
  rw [h0]
  refine iter_range (S := Sc × Sc) (n := few ls) (fun i => (mk (encFrom ls i (few ls)), scanTo ls i (mk y))) (fun i hi => ?_) ?_
  · obtain ⟨c1, c2, c3, c4, c5, c6⟩ := back2_round' hls hb hby i hi
    have hP := okP_mk (encTo_len.allD hls (show i < ls.length by omega)) (hb i hi)
    have hcons := encFrom_cons hi (show few ls ≤ ls.length by omega)
    obtain ⟨s1, s2, s3⟩ := scan_part hP (encFrom ls (i + 1) (few ls))
    rw [← hcons] at s1 s2 s3
    rw [Int.toNat_natCast] at c3
    unfold back2_step
    simp only [c1, c2, c3, c4, c5, show (mk (encFrom ls i (few ls))).ds = encFrom ls i (few ls) from rfl, c6, Int.toNat_natCast, wrap_succ (show i < 2 ^ 62 by omega), scanTo_succ (show i < ls.length by omega)]
    unfold scanP at s1 ⊢
    cases ht : pT (nthD ls i) with
    | true =>
      rw [ht, cond_true] at s1
      have ht' : (!decide (Array.toList (ByteArray.data (pS (nthD ls i))) = [])) = true := ht
      have s2' := s2 ht
      simp only [ht', s2', s1, decide_true, Bool.not_true, show D.eqb (.bool false) (.bool false) = true from rfl]
      rfl
    | false =>
      rw [ht, cond_false] at s1
      have ht' : (!decide (Array.toList (ByteArray.data (pS (nthD ls i))) = [])) = false := ht
      have s3' := s3 ht
      simp only [ht', s3', s1, bne_self_eq_false, show D.eqb (.bool false) (.bool false) = true from rfl]
      rfl
  · unfold back2_step
    rw [encFrom_end]
    simp only [decide_eq_false (show ¬ ((few ls : Nat) : Int) < ((few ls : Nat) : Int) by omega)]
    rfl

theorem back3_closed (ls x y : List D) (cut many : Int) (b zd : List D) (zf : Int) (zb : Bool) (hc : (decide (many = ((few ls : Nat) : Int)) && okB5 ls x y) = true) :
    ∃ k, (iterT (back3_step ls cut many b zd zf zb) k (0, mk x, mk y)).run = T.run (.leaf (some 2, mkF 173 [(1, .dat (.int .i64 cut)), (5, .dat (.slc .one b)), (8, ptrS), (9, .ptr shS 2 0 [])], [scanB (mk []), scanB ⟨zd, zf, zb⟩, scanB (scanTo ls (few ls) (mk y))])) := by
  rw [Bool.and_eq_true, decide_eq_true_eq] at hc
  obtain ⟨rfl, hc⟩ := hc
  obtain ⟨hls, hb, hx, hy⟩ := okB5_spec hc
  have hf : few ls = min ls.length 50 := rfl
  have hlx := enc_few_len hls hb
  have hby : (mk y).ok = true := by
    have h1 : isBytes y = true := by rw [hy, hx]; exact isBytes_take _ (encTo_bytes ls _)
    have h2 : y.length ≤ x.length := by
      have := congrArg List.length hy
      rw [List.length_take] at this; omega
    show (isBytes y && decide (y.length ≤ LIM)) = true
    rw [h1, decide_eq_true (by unfold LIM; rw [hx] at h2; omega)]; rfl
  have h0 : x = encFrom ls 0 (few ls) := by rw [hx]; rfl
  rw [h0]
  refine iter_range (S := Sc × Sc) (n := few ls) (fun i => (mk (encFrom ls i (few ls)), scanTo ls i (mk y))) (fun i hi => ?_) ?_
  · obtain ⟨c1, c2, c3, c4, c5, c6⟩ := back2_round' hls hb hby i hi
    have hP := okP_mk (encTo_len.allD hls (show i < ls.length by omega)) (hb i hi)
    have hcons := encFrom_cons hi (show few ls ≤ ls.length by omega)
    obtain ⟨s1, s2, s3⟩ := scan_part hP (encFrom ls (i + 1) (few ls))
    rw [← hcons] at s1 s2 s3
    rw [Int.toNat_natCast] at c3
    unfold back3_step
    simp only [c1, c2, c3, c4, c5, show (mk (encFrom ls i (few ls))).ds = encFrom ls i (few ls) from rfl, c6, Int.toNat_natCast, wrap_succ (show i < 2 ^ 62 by omega), scanTo_succ (show i < ls.length by omega)]
    unfold scanP at s1 ⊢
    cases ht : pT (nthD ls i) with
    | true =>
      rw [ht, cond_true] at s1
      have ht' : (!decide (Array.toList (ByteArray.data (pS (nthD ls i))) = [])) = true := ht
      have s2' := s2 ht
      simp only [ht', s2', s1, decide_true, Bool.not_true, show D.eqb (.bool false) (.bool false) = true from rfl]
      rfl
    | false =>
      rw [ht, cond_false] at s1
      have ht' : (!decide (Array.toList (ByteArray.data (pS (nthD ls i))) = [])) = false := ht
      have s3' := s3 ht
      simp only [ht', s3', s1, bne_self_eq_false, show D.eqb (.bool false) (.bool false) = true from rfl]
      rfl
  · unfold back3_step
    rw [encFrom_end]
    simp only [decide_eq_false (show ¬ ((few ls : Nat) : Int) < ((few ls : Nat) : Int) by omega)]
    rfl

def L_back2 : Frame' → Store → T (Exit × Frame' × Store) := fun fr σ => match fr.getD 0 .undef, fr.getD 1 .undef, fr.getD 5 .undef, fr.getD 6 .undef, fr.getD 8 .undef, fr.getD 9 .undef, fr.getD 10 .undef, σ with
  | AV.dat (D.slc (Sh.agg [Sh.one, Sh.one, Sh.one]) ls), AV.dat (D.int IntKind.i64 cut), AV.dat (D.slc Sh.one b), AV.dat (D.int IntKind.i64 many), AV.ptr (Sh.agg [Sh.one, Sh.one, Sh.one]) 0 0 [], AV.ptr (Sh.agg [Sh.one, Sh.one, Sh.one]) 1 0 [], AV.dat (D.int IntKind.i64 0), [{ sh := Sh.agg [Sh.one, Sh.one, Sh.one], dyn := false, frz := false, v := AV.dat (D.agg [D.slc Sh.one x, D.int IntKind.i64 0, D.bool true]) }, { sh := Sh.agg [Sh.one, Sh.one, Sh.one], dyn := false, frz := false, v := AV.dat (D.agg [D.slc Sh.one y, D.int IntKind.i64 0, D.bool true]) }] => .chk (Nat.beq fr.length 173 && (decide (many = ((few ls : Nat) : Int)) && okB5 ls x y)) (T.bind (.leaf (some 2, mkF 173 [(1, .dat (.int .i64 cut)), (5, .dat (.slc .one b)), (8, ptrS), (9, .ptr shS 1 0 [])], [scanB (mk []), scanB (scanTo ls (few ls) (mk y))])) fun o => .leaf (outEx o.1, o.2.1, o.2.2))
  | _, _, _, _, _, _, _, _ => .fail
theorem back2_sem (lp : Loops) : ∀ fr σ p, (L_back2 fr σ).run = some p → ∀ (K : Kt) r, K p.1 p.2.1 p.2.2 = some r → ∃ n, loopRun (envOf tab Sq [] lp H5) Try.f5 1 σ.length n (cleanF (liveAt Try.f5 1) 0 fr) σ K = some r := by
  intro fr σ p h K r hK
  unfold L_back2 at h
  split at h
  · rename_i ls cut b many x y g0 g1 g5 g6 g8 g9 g10
    obtain ⟨hc, h'⟩ := T.chk_some h
    rw [Bool.and_eq_true] at hc
    obtain ⟨hl, hc⟩ := hc
    obtain ⟨o, ho, h'⟩ := T.bind_some h'
    have hp := T.leaf_some h'
    subst hp
    obtain ⟨nF, hn⟩ : ∃ nF, (iterT (back2_step ls cut many b) nF ((0, mk x, mk y))).run = T.run (.leaf (some 2, mkF 173 [(1, .dat (.int .i64 cut)), (5, .dat (.slc .one b)), (8, ptrS), (9, .ptr shS 1 0 [])], [scanB (mk []), scanB (scanTo ls (few ls) (mk y))])) := back2_closed ls x y cut many b hc
    rw [ho] at hn
    refine ⟨nF, ?_⟩
    have he : cleanF (liveAt Try.f5 1) 0 fr = back2_fr ls cut many b ((0, mk x, mk y)) := back2_enter ls cut many b _ _ _ fr hl g0 g1 g5 g6 g8 g9 g10
    refine (iter_ok (base := 2) (back2_hr lp ls cut many b) K nF ((0, mk x, mk y)) _ _ (by rw [clean_clean]; exact he) (by kernel_rfl)).trans ?_
    rw [T.k_run hn]
    exact hK
  · simp [T.run_fail] at h
theorem back2_loopOk (lp : Loops) (hk : Loops.get lp 17 = some L_back2) : LoopOk (envOf tab Sq [] lp H5) (loopAt Try.f5 1).1 (loopAt Try.f5 1).2 := loop_ok (L := L_back2) hk (back2_sem lp)


def L_back3 : Frame' → Store → T (Exit × Frame' × Store) := fun fr σ => match fr.getD 0 .undef, fr.getD 1 .undef, fr.getD 5 .undef, fr.getD 6 .undef, fr.getD 8 .undef, fr.getD 9 .undef, fr.getD 10 .undef, σ with
  | AV.dat (D.slc (Sh.agg [Sh.one, Sh.one, Sh.one]) ls), AV.dat (D.int IntKind.i64 cut), AV.dat (D.slc Sh.one b), AV.dat (D.int IntKind.i64 many), AV.ptr (Sh.agg [Sh.one, Sh.one, Sh.one]) 0 0 [], AV.ptr (Sh.agg [Sh.one, Sh.one, Sh.one]) 2 0 [], AV.dat (D.int IntKind.i64 0), [{ sh := Sh.agg [Sh.one, Sh.one, Sh.one], dyn := false, frz := false, v := AV.dat (D.agg [D.slc Sh.one x, D.int IntKind.i64 0, D.bool true]) }, { sh := Sh.agg [Sh.one, Sh.one, Sh.one], dyn := false, frz := false, v := AV.dat (D.agg [D.slc Sh.one zd, D.int IntKind.i64 zf, D.bool zb]) }, { sh := Sh.agg [Sh.one, Sh.one, Sh.one], dyn := false, frz := false, v := AV.dat (D.agg [D.slc Sh.one y, D.int IntKind.i64 0, D.bool true]) }] => .chk (Nat.beq fr.length 173 && (decide (many = ((few ls : Nat) : Int)) && okB5 ls x y)) (T.bind (.leaf (some 2, mkF 173 [(1, .dat (.int .i64 cut)), (5, .dat (.slc .one b)), (8, ptrS), (9, .ptr shS 2 0 [])], [scanB (mk []), scanB ⟨zd, zf, zb⟩, scanB (scanTo ls (few ls) (mk y))])) fun o => .leaf (outEx o.1, o.2.1, o.2.2))
  | _, _, _, _, _, _, _, _ => .fail
theorem back3_sem (lp : Loops) : ∀ fr σ p, (L_back3 fr σ).run = some p → ∀ (K : Kt) r, K p.1 p.2.1 p.2.2 = some r → ∃ n, loopRun (envOf tab Sq [] lp H5) Try.f5 1 σ.length n (cleanF (liveAt Try.f5 1) 0 fr) σ K = some r := by
  intro fr σ p h K r hK
  unfold L_back3 at h
  split at h
  · rename_i ls cut b many x zd zf zb y g0 g1 g5 g6 g8 g9 g10
    obtain ⟨hc, h'⟩ := T.chk_some h
    rw [Bool.and_eq_true] at hc
    obtain ⟨hl, hc⟩ := hc
    obtain ⟨o, ho, h'⟩ := T.bind_some h'
    have hp := T.leaf_some h'
    subst hp
    obtain ⟨nF, hn⟩ : ∃ nF, (iterT (back3_step ls cut many b zd zf zb) nF ((0, mk x, mk y))).run = T.run (.leaf (some 2, mkF 173 [(1, .dat (.int .i64 cut)), (5, .dat (.slc .one b)), (8, ptrS), (9, .ptr shS 2 0 [])], [scanB (mk []), scanB ⟨zd, zf, zb⟩, scanB (scanTo ls (few ls) (mk y))])) := back3_closed ls x y cut many b zd zf zb hc
    rw [ho] at hn
    refine ⟨nF, ?_⟩
    have he : cleanF (liveAt Try.f5 1) 0 fr = back3_fr ls cut many b zd zf zb ((0, mk x, mk y)) := back3_enter ls cut many b zd zf zb _ _ _ fr hl g0 g1 g5 g6 g8 g9 g10
    refine (iter_ok (base := 3) (back3_hr lp ls cut many b zd zf zb) K nF ((0, mk x, mk y)) _ _ (by rw [clean_clean]; exact he) (by kernel_rfl)).trans ?_
    rw [T.k_run hn]
    exact hK
  · simp [T.run_fail] at h
theorem back3_loopOk (lp : Loops) (hk : Loops.get lp 17 = some L_back3) : LoopOk (envOf tab Sq [] lp H5) (loopAt Try.f5 1).1 (loopAt Try.f5 1).2 := loop_ok (L := L_back3) hk (back3_sem lp)


def L_back : Frame' → Store → T (Exit × Frame' × Store) := fun fr σ => T.or (L_back2 fr σ) (L_back3 fr σ)
abbrev E5 : Env := envOf tab Sq [] [(4, L_back1), (17, L_back)] H5
theorem back_loops : ∀ x ∈ fnLoops Try.f5, LoopOk E5 x.1 x.2 := by
  refine loops_all 2 (by kernel_rfl) fun i hi => ?_
  match i, hi with
  | 0, _ => exact back1_loopOk _ rfl
  | 1, _ => exact loop_ok (L := L_back) rfl fun fr σ p h => (T.or_run h).elim (fun h => back2_sem _ fr σ p h) (fun h => back3_sem _ fr σ p h)
  | n + 2, h => omega

end Go.Proofs.Ytnailhdfopoibaa
