/- Seat 07: the document's disk, its loops. -/
import Derived.Test.YthhipekbkodjoaaF
namespace Go.Proofs.Ythhipekbkodjoaa
open Go.AX
set_option maxRecDepth 100000
abbrev xB (nw sa wa : List D) (f : Int) (u : Bool) : Blk := ⟨.agg [.one, .one, .one, .one, .one], false, false, .dat (.agg [.slc .one nw, .slc .one sa, .slc (.agg [.one, .one]) wa, .int .i64 f, .bool u])⟩
abbrev zB : Blk := ⟨.agg [.one, .one, .one, .one, .one], false, false, .agg [.fslc .one [], .fslc .one [], .fslc (.agg [.one, .one]) [], .dat (.int .i64 0), .dat (.bool false)]⟩
def rc_fr (_nw _wa ch : List D) (_f : Int) (_u : Bool) : (Int × List D) → Frame' := fun ⟨i, _⟩ => mkF 59 [(1, .dat (.slc .one ch)), (2, .ptr s32 0 0 []), (4, .ptr s32 1 0 []), (5, .dat (.int .i64 i))]
def rc_st (nw wa _ch : List D) (f : Int) (u : Bool) : (Int × List D) → Store := fun ⟨_, sa⟩ => [xB nw sa wa f u, zB]
def rc_step (nw wa ch : List D) (f : Int) (u : Bool) : (Int × List D) → T ((Int × List D) ⊕ LOut) := fun ⟨i, sa⟩ =>
  .chk (!decide (i < (↑(List.length wa) : Int)) || bif decide (i < (↑(List.length ch) : Int)) then decide (0 ≤ i) && (decide (Int.toNat i < List.length ch) && (okE (Ek.int IntKind.u8) (nthD ch (Int.toNat i)) && bif decide (16 < IntKind.wrap IntKind.i64 (D.getI (nthD ch (Int.toNat i)))) then decide (Int.toNat i < List.length wa) && (okE (Ek.agg [Ek.int IntKind.i64, Ek.str]) (nthD wa (Int.toNat i)) && (decide (128 ≤ ByteArray.size (D.getS (nthD (D.getL (nthD wa (Int.toNat i))) 1))) && (decide (0 ≤ D.getI (nthD (D.getL (nthD wa (Int.toNat i))) 0)) && (decide (Int.toNat (D.getI (nthD (D.getL (nthD wa (Int.toNat i))) 0)) < List.length sa) && (okE Ek.str (nthD sa (Int.toNat (D.getI (nthD (D.getL (nthD wa (Int.toNat i))) 0)))) && (decide (128 ≤ ByteArray.size (D.getS (nthD sa (Int.toNat (D.getI (nthD (D.getL (nthD wa (Int.toNat i))) 0)))))) && decide (ByteArray.size (D.getS (nthD sa (Int.toNat (D.getI (nthD (D.getL (nthD wa (Int.toNat i))) 0))))) ≤ ByteArray.size (D.getS (nthD sa (Int.toNat (D.getI (nthD (D.getL (nthD wa (Int.toNat i))) 0)))))) && (decide (ByteArray.size (subStr (D.getS (nthD (D.getL (nthD wa (Int.toNat i))) 1)) 0 128) + ByteArray.size (subStr (D.getS (nthD sa (Int.toNat (D.getI (nthD (D.getL (nthD wa (Int.toNat i))) 0))))) 128 (ByteArray.size (D.getS (nthD sa (Int.toNat (D.getI (nthD (D.getL (nthD wa (Int.toNat i))) 0))))))) ≤ 35184372088832) && wth_pre sa (D.getI (nthD (D.getL (nthD wa (Int.toNat i))) 0)) (catStr (subStr (D.getS (nthD (D.getL (nthD wa (Int.toNat i))) 1)) 0 128) (subStr (D.getS (nthD sa (Int.toNat (D.getI (nthD (D.getL (nthD wa (Int.toNat i))) 0))))) 128 (ByteArray.size (D.getS (nthD sa (Int.toNat (D.getI (nthD (D.getL (nthD wa (Int.toNat i))) 0))))))))))))))) else decide (Int.toNat i < List.length wa) && (okE (Ek.agg [Ek.int IntKind.i64, Ek.str]) (nthD wa (Int.toNat i)) && (decide (0 ≤ IntKind.wrap IntKind.i64 (8 * IntKind.wrap IntKind.i64 (D.getI (nthD ch (Int.toNat i))))) && (decide (Int.toNat (IntKind.wrap IntKind.i64 (8 * IntKind.wrap IntKind.i64 (D.getI (nthD ch (Int.toNat i))))) ≤ ByteArray.size (D.getS (nthD (D.getL (nthD wa (Int.toNat i))) 1))) && (decide (0 ≤ D.getI (nthD (D.getL (nthD wa (Int.toNat i))) 0)) && (decide (Int.toNat (D.getI (nthD (D.getL (nthD wa (Int.toNat i))) 0)) < List.length sa) && (okE Ek.str (nthD sa (Int.toNat (D.getI (nthD (D.getL (nthD wa (Int.toNat i))) 0)))) && (decide (Int.toNat (IntKind.wrap IntKind.i64 (8 * IntKind.wrap IntKind.i64 (D.getI (nthD ch (Int.toNat i))))) ≤ ByteArray.size (D.getS (nthD sa (Int.toNat (D.getI (nthD (D.getL (nthD wa (Int.toNat i))) 0)))))) && decide (ByteArray.size (D.getS (nthD sa (Int.toNat (D.getI (nthD (D.getL (nthD wa (Int.toNat i))) 0))))) ≤ ByteArray.size (D.getS (nthD sa (Int.toNat (D.getI (nthD (D.getL (nthD wa (Int.toNat i))) 0)))))) && (decide (ByteArray.size (subStr (D.getS (nthD (D.getL (nthD wa (Int.toNat i))) 1)) 0 (Int.toNat (IntKind.wrap IntKind.i64 (8 * IntKind.wrap IntKind.i64 (D.getI (nthD ch (Int.toNat i))))))) + ByteArray.size (subStr (D.getS (nthD sa (Int.toNat (D.getI (nthD (D.getL (nthD wa (Int.toNat i))) 0))))) (Int.toNat (IntKind.wrap IntKind.i64 (8 * IntKind.wrap IntKind.i64 (D.getI (nthD ch (Int.toNat i)))))) (ByteArray.size (D.getS (nthD sa (Int.toNat (D.getI (nthD (D.getL (nthD wa (Int.toNat i))) 0))))))) ≤ 35184372088832) && wth_pre sa (D.getI (nthD (D.getL (nthD wa (Int.toNat i))) 0)) (catStr (subStr (D.getS (nthD (D.getL (nthD wa (Int.toNat i))) 1)) 0 (Int.toNat (IntKind.wrap IntKind.i64 (8 * IntKind.wrap IntKind.i64 (D.getI (nthD ch (Int.toNat i))))))) (subStr (D.getS (nthD sa (Int.toNat (D.getI (nthD (D.getL (nthD wa (Int.toNat i))) 0))))) (Int.toNat (IntKind.wrap IntKind.i64 (8 * IntKind.wrap IntKind.i64 (D.getI (nthD ch (Int.toNat i)))))) (ByteArray.size (D.getS (nthD sa (Int.toNat (D.getI (nthD (D.getL (nthD wa (Int.toNat i))) 0)))))))))))))))))) else decide (0 ≤ i) && (decide (Int.toNat i < List.length wa) && (okE (Ek.agg [Ek.int IntKind.i64, Ek.str]) (nthD wa (Int.toNat i)) && (decide (0 ≤ D.getI (nthD (D.getL (nthD wa (Int.toNat i))) 0)) && (decide (Int.toNat (D.getI (nthD (D.getL (nthD wa (Int.toNat i))) 0)) < List.length sa) && (okE Ek.str (nthD sa (Int.toNat (D.getI (nthD (D.getL (nthD wa (Int.toNat i))) 0)))) && (decide (ByteArray.size (D.getS (nthD sa (Int.toNat (D.getI (nthD (D.getL (nthD wa (Int.toNat i))) 0))))) ≤ ByteArray.size (D.getS (nthD sa (Int.toNat (D.getI (nthD (D.getL (nthD wa (Int.toNat i))) 0)))))) && (decide (0 + ByteArray.size (subStr (D.getS (nthD sa (Int.toNat (D.getI (nthD (D.getL (nthD wa (Int.toNat i))) 0))))) 0 (ByteArray.size (D.getS (nthD sa (Int.toNat (D.getI (nthD (D.getL (nthD wa (Int.toNat i))) 0))))))) ≤ 35184372088832) && wth_pre sa (D.getI (nthD (D.getL (nthD wa (Int.toNat i))) 0)) (catStr (subStr (D.getS (nthD (D.getL (nthD wa (Int.toNat i))) 1)) 0 0) (subStr (D.getS (nthD sa (Int.toNat (D.getI (nthD (D.getL (nthD wa (Int.toNat i))) 0))))) 0 (ByteArray.size (D.getS (nthD sa (Int.toNat (D.getI (nthD (D.getL (nthD wa (Int.toNat i))) 0)))))))))))))))) (
   .br (!decide (i < (↑(List.length wa) : Int))) (.leaf (.inr ((some 0), mkF 59 [(2, AV.ptr (s32) 0 0 []), (4, AV.ptr (s32) 1 0 [])], [{ sh := s32, dyn := false, frz := false, v := .dat (.agg [D.slc Sh.one nw, D.slc Sh.one sa, D.slc (Sh.agg [Sh.one, Sh.one]) wa, D.int .i64 f, D.bool u]) }, { sh := s32, dyn := false, frz := false, v := AV.agg [AV.fslc Sh.one [], AV.fslc Sh.one [], AV.fslc (Sh.agg [Sh.one, Sh.one]) [], .dat (.int .i64 0), .dat (.bool false)] }]))) (.leaf (.inl ((IntKind.wrap IntKind.i64 (i + 1)), (bif decide (i < (↑(List.length ch) : Int)) then bif decide (16 < IntKind.wrap IntKind.i64 (D.getI (nthD ch (Int.toNat i)))) then seg (wiTo sa (D.getI (nthD (D.getL (nthD wa (Int.toNat i))) 0)) (catStr (subStr (D.getS (nthD (D.getL (nthD wa (Int.toNat i))) 1)) 0 128) (subStr (D.getS (nthD sa (Int.toNat (D.getI (nthD (D.getL (nthD wa (Int.toNat i))) 0))))) 128 (ByteArray.size (D.getS (nthD sa (Int.toNat (D.getI (nthD (D.getL (nthD wa (Int.toNat i))) 0)))))))) (List.length sa)) 0 (List.length sa) else seg (wiTo sa (D.getI (nthD (D.getL (nthD wa (Int.toNat i))) 0)) (catStr (subStr (D.getS (nthD (D.getL (nthD wa (Int.toNat i))) 1)) 0 (Int.toNat (IntKind.wrap IntKind.i64 (8 * IntKind.wrap IntKind.i64 (D.getI (nthD ch (Int.toNat i))))))) (subStr (D.getS (nthD sa (Int.toNat (D.getI (nthD (D.getL (nthD wa (Int.toNat i))) 0))))) (Int.toNat (IntKind.wrap IntKind.i64 (8 * IntKind.wrap IntKind.i64 (D.getI (nthD ch (Int.toNat i)))))) (ByteArray.size (D.getS (nthD sa (Int.toNat (D.getI (nthD (D.getL (nthD wa (Int.toNat i))) 0)))))))) (List.length sa)) 0 (List.length sa) else seg (wiTo sa (D.getI (nthD (D.getL (nthD wa (Int.toNat i))) 0)) (catStr (subStr (D.getS (nthD (D.getL (nthD wa (Int.toNat i))) 1)) 0 0) (subStr (D.getS (nthD sa (Int.toNat (D.getI (nthD (D.getL (nthD wa (Int.toNat i))) 0))))) 0 (ByteArray.size (D.getS (nthD sa (Int.toNat (D.getI (nthD (D.getL (nthD wa (Int.toNat i))) 0)))))))) (List.length sa)) 0 (List.length sa))))))
theorem rc_round (lp : Loops) (nw wa ch : List D) (f : Int) (u : Bool) (i : Int) (sa : List D) (K : Kt) : oneRound (envOf tab SpX [] lp []) Try.f18 0 (2) (mkF 59 [(1, .dat (.slc .one ch)), (2, .ptr s32 0 0 []), (4, .ptr s32 1 0 []), (5, .dat (.int .i64 i))]) ([xB nw sa wa f u, zB]) K =
  (bif decide (i < (↑(List.length wa) : Int)) then
   (bif decide (i < (↑(List.length ch) : Int)) then
    (bif decide (0 ≤ i) then
     (bif decide (Int.toNat i < List.length ch) then
      (bif okE (Ek.int IntKind.u8) (nthD ch (Int.toNat i)) then
       (bif decide (IntKind.wrap IntKind.i64 (D.getI (nthD ch (Int.toNat i))) > 16) then
        (bif decide (0 ≤ i) then
         (bif decide (Int.toNat i < List.length wa) then
          (bif okE (Ek.agg [Ek.int IntKind.i64, Ek.str]) (nthD wa (Int.toNat i)) then
           (bif decide (128 ≤ ByteArray.size (D.getS (nthD (D.getL (nthD wa (Int.toNat i))) 1))) then
            (bif decide (0 ≤ D.getI (nthD (D.getL (nthD wa (Int.toNat i))) 0)) then
             (bif decide (Int.toNat (D.getI (nthD (D.getL (nthD wa (Int.toNat i))) 0)) < List.length sa) then
              (bif okE Ek.str (nthD sa (Int.toNat (D.getI (nthD (D.getL (nthD wa (Int.toNat i))) 0)))) then
               (bif decide (128 ≤ ByteArray.size (D.getS (nthD sa (Int.toNat (D.getI (nthD (D.getL (nthD wa (Int.toNat i))) 0)))))) && decide (ByteArray.size (D.getS (nthD sa (Int.toNat (D.getI (nthD (D.getL (nthD wa (Int.toNat i))) 0))))) ≤ ByteArray.size (D.getS (nthD sa (Int.toNat (D.getI (nthD (D.getL (nthD wa (Int.toNat i))) 0)))))) then
                (bif decide (ByteArray.size (subStr (D.getS (nthD (D.getL (nthD wa (Int.toNat i))) 1)) 0 128) + ByteArray.size (subStr (D.getS (nthD sa (Int.toNat (D.getI (nthD (D.getL (nthD wa (Int.toNat i))) 0))))) 128 (ByteArray.size (D.getS (nthD sa (Int.toNat (D.getI (nthD (D.getL (nthD wa (Int.toNat i))) 0))))))) ≤ 35184372088832) then
                 (bif wth_pre sa (D.getI (nthD (D.getL (nthD wa (Int.toNat i))) 0)) (catStr (subStr (D.getS (nthD (D.getL (nthD wa (Int.toNat i))) 1)) 0 128) (subStr (D.getS (nthD sa (Int.toNat (D.getI (nthD (D.getL (nthD wa (Int.toNat i))) 0))))) 128 (ByteArray.size (D.getS (nthD sa (Int.toNat (D.getI (nthD (D.getL (nthD wa (Int.toNat i))) 0)))))))) then K (Exit.normal) (mkF 59 [(1, .dat (.slc Sh.one ch)), (2, AV.ptr (s32) 0 0 []), (4, AV.ptr (s32) 1 0 []), (5, .dat (.int .i64 (IntKind.wrap IntKind.i64 (i + 1)))), (13, .dat (.int .i64 i)), (14, .dat (.int .i64 (IntKind.wrap IntKind.i64 (i + 1))))]) ([{ sh := s32, dyn := false, frz := false, v := .dat (.agg [D.slc Sh.one nw, D.slc Sh.one (seg (wiTo sa (D.getI (nthD (D.getL (nthD wa (Int.toNat i))) 0)) (catStr (subStr (D.getS (nthD (D.getL (nthD wa (Int.toNat i))) 1)) 0 128) (subStr (D.getS (nthD sa (Int.toNat (D.getI (nthD (D.getL (nthD wa (Int.toNat i))) 0))))) 128 (ByteArray.size (D.getS (nthD sa (Int.toNat (D.getI (nthD (D.getL (nthD wa (Int.toNat i))) 0)))))))) (List.length sa)) 0 (List.length sa)), D.slc (Sh.agg [Sh.one, Sh.one]) wa, D.int .i64 f, D.bool u]) }, { sh := s32, dyn := false, frz := false, v := AV.agg [AV.fslc Sh.one [], AV.fslc Sh.one [], AV.fslc (Sh.agg [Sh.one, Sh.one]) [], .dat (.int .i64 0), .dat (.bool false)] }, { sh := Sh.agg [Sh.one, Sh.one], dyn := false, frz := false, v := .dat (.agg [D.int .i64 (D.getI (nthD (D.getL (nthD wa (Int.toNat i))) 0)), D.str (D.getS (nthD (D.getL (nthD wa (Int.toNat i))) 1))]) }]) else none) else none) else none) else none) else none) else none) else none) else none) else none) else none) else
        (bif decide (0 ≤ i) then
         (bif decide (Int.toNat i < List.length wa) then
          (bif okE (Ek.agg [Ek.int IntKind.i64, Ek.str]) (nthD wa (Int.toNat i)) then
           (bif decide (0 ≤ IntKind.wrap IntKind.i64 (8 * IntKind.wrap IntKind.i64 (D.getI (nthD ch (Int.toNat i))))) then
            (bif decide (Int.toNat (IntKind.wrap IntKind.i64 (8 * IntKind.wrap IntKind.i64 (D.getI (nthD ch (Int.toNat i))))) ≤ ByteArray.size (D.getS (nthD (D.getL (nthD wa (Int.toNat i))) 1))) then
             (bif decide (0 ≤ D.getI (nthD (D.getL (nthD wa (Int.toNat i))) 0)) then
              (bif decide (Int.toNat (D.getI (nthD (D.getL (nthD wa (Int.toNat i))) 0)) < List.length sa) then
               (bif okE Ek.str (nthD sa (Int.toNat (D.getI (nthD (D.getL (nthD wa (Int.toNat i))) 0)))) then
                (bif decide (0 ≤ IntKind.wrap IntKind.i64 (8 * IntKind.wrap IntKind.i64 (D.getI (nthD ch (Int.toNat i))))) then
                 (bif decide (Int.toNat (IntKind.wrap IntKind.i64 (8 * IntKind.wrap IntKind.i64 (D.getI (nthD ch (Int.toNat i))))) ≤ ByteArray.size (D.getS (nthD sa (Int.toNat (D.getI (nthD (D.getL (nthD wa (Int.toNat i))) 0)))))) && decide (ByteArray.size (D.getS (nthD sa (Int.toNat (D.getI (nthD (D.getL (nthD wa (Int.toNat i))) 0))))) ≤ ByteArray.size (D.getS (nthD sa (Int.toNat (D.getI (nthD (D.getL (nthD wa (Int.toNat i))) 0)))))) then
                  (bif decide (ByteArray.size (subStr (D.getS (nthD (D.getL (nthD wa (Int.toNat i))) 1)) 0 (Int.toNat (IntKind.wrap IntKind.i64 (8 * IntKind.wrap IntKind.i64 (D.getI (nthD ch (Int.toNat i))))))) + ByteArray.size (subStr (D.getS (nthD sa (Int.toNat (D.getI (nthD (D.getL (nthD wa (Int.toNat i))) 0))))) (Int.toNat (IntKind.wrap IntKind.i64 (8 * IntKind.wrap IntKind.i64 (D.getI (nthD ch (Int.toNat i)))))) (ByteArray.size (D.getS (nthD sa (Int.toNat (D.getI (nthD (D.getL (nthD wa (Int.toNat i))) 0))))))) ≤ 35184372088832) then
                   (bif wth_pre sa (D.getI (nthD (D.getL (nthD wa (Int.toNat i))) 0)) (catStr (subStr (D.getS (nthD (D.getL (nthD wa (Int.toNat i))) 1)) 0 (Int.toNat (IntKind.wrap IntKind.i64 (8 * IntKind.wrap IntKind.i64 (D.getI (nthD ch (Int.toNat i))))))) (subStr (D.getS (nthD sa (Int.toNat (D.getI (nthD (D.getL (nthD wa (Int.toNat i))) 0))))) (Int.toNat (IntKind.wrap IntKind.i64 (8 * IntKind.wrap IntKind.i64 (D.getI (nthD ch (Int.toNat i)))))) (ByteArray.size (D.getS (nthD sa (Int.toNat (D.getI (nthD (D.getL (nthD wa (Int.toNat i))) 0)))))))) then K (Exit.normal) (mkF 59 [(1, .dat (.slc Sh.one ch)), (2, AV.ptr (s32) 0 0 []), (4, AV.ptr (s32) 1 0 []), (5, .dat (.int .i64 (IntKind.wrap IntKind.i64 (i + 1)))), (13, .dat (.int .i64 i)), (14, .dat (.int .i64 (IntKind.wrap IntKind.i64 (i + 1))))]) ([{ sh := s32, dyn := false, frz := false, v := .dat (.agg [D.slc Sh.one nw, D.slc Sh.one (seg (wiTo sa (D.getI (nthD (D.getL (nthD wa (Int.toNat i))) 0)) (catStr (subStr (D.getS (nthD (D.getL (nthD wa (Int.toNat i))) 1)) 0 (Int.toNat (IntKind.wrap IntKind.i64 (8 * IntKind.wrap IntKind.i64 (D.getI (nthD ch (Int.toNat i))))))) (subStr (D.getS (nthD sa (Int.toNat (D.getI (nthD (D.getL (nthD wa (Int.toNat i))) 0))))) (Int.toNat (IntKind.wrap IntKind.i64 (8 * IntKind.wrap IntKind.i64 (D.getI (nthD ch (Int.toNat i)))))) (ByteArray.size (D.getS (nthD sa (Int.toNat (D.getI (nthD (D.getL (nthD wa (Int.toNat i))) 0)))))))) (List.length sa)) 0 (List.length sa)), D.slc (Sh.agg [Sh.one, Sh.one]) wa, D.int .i64 f, D.bool u]) }, { sh := s32, dyn := false, frz := false, v := AV.agg [AV.fslc Sh.one [], AV.fslc Sh.one [], AV.fslc (Sh.agg [Sh.one, Sh.one]) [], .dat (.int .i64 0), .dat (.bool false)] }, { sh := Sh.agg [Sh.one, Sh.one], dyn := false, frz := false, v := .dat (.agg [D.int .i64 (D.getI (nthD (D.getL (nthD wa (Int.toNat i))) 0)), D.str (D.getS (nthD (D.getL (nthD wa (Int.toNat i))) 1))]) }]) else none) else none) else none) else none) else none) else none) else none) else none) else none) else none) else none) else none)) else none) else none) else none) else
    (bif decide (0 ≤ i) then
     (bif decide (Int.toNat i < List.length wa) then
      (bif okE (Ek.agg [Ek.int IntKind.i64, Ek.str]) (nthD wa (Int.toNat i)) then
       (bif decide (0 ≤ D.getI (nthD (D.getL (nthD wa (Int.toNat i))) 0)) then
        (bif decide (Int.toNat (D.getI (nthD (D.getL (nthD wa (Int.toNat i))) 0)) < List.length sa) then
         (bif okE Ek.str (nthD sa (Int.toNat (D.getI (nthD (D.getL (nthD wa (Int.toNat i))) 0)))) then
          (bif decide (ByteArray.size (D.getS (nthD sa (Int.toNat (D.getI (nthD (D.getL (nthD wa (Int.toNat i))) 0))))) ≤ ByteArray.size (D.getS (nthD sa (Int.toNat (D.getI (nthD (D.getL (nthD wa (Int.toNat i))) 0)))))) then
           (bif decide (0 + ByteArray.size (subStr (D.getS (nthD sa (Int.toNat (D.getI (nthD (D.getL (nthD wa (Int.toNat i))) 0))))) 0 (ByteArray.size (D.getS (nthD sa (Int.toNat (D.getI (nthD (D.getL (nthD wa (Int.toNat i))) 0))))))) ≤ 35184372088832) then
            (bif wth_pre sa (D.getI (nthD (D.getL (nthD wa (Int.toNat i))) 0)) (catStr (subStr (D.getS (nthD (D.getL (nthD wa (Int.toNat i))) 1)) 0 0) (subStr (D.getS (nthD sa (Int.toNat (D.getI (nthD (D.getL (nthD wa (Int.toNat i))) 0))))) 0 (ByteArray.size (D.getS (nthD sa (Int.toNat (D.getI (nthD (D.getL (nthD wa (Int.toNat i))) 0)))))))) then K (Exit.normal) (mkF 59 [(1, .dat (.slc Sh.one ch)), (2, AV.ptr (s32) 0 0 []), (4, AV.ptr (s32) 1 0 []), (5, .dat (.int .i64 (IntKind.wrap IntKind.i64 (i + 1)))), (13, .dat (.int .i64 i)), (14, .dat (.int .i64 (IntKind.wrap IntKind.i64 (i + 1))))]) ([{ sh := s32, dyn := false, frz := false, v := .dat (.agg [D.slc Sh.one nw, D.slc Sh.one (seg (wiTo sa (D.getI (nthD (D.getL (nthD wa (Int.toNat i))) 0)) (catStr (subStr (D.getS (nthD (D.getL (nthD wa (Int.toNat i))) 1)) 0 0) (subStr (D.getS (nthD sa (Int.toNat (D.getI (nthD (D.getL (nthD wa (Int.toNat i))) 0))))) 0 (ByteArray.size (D.getS (nthD sa (Int.toNat (D.getI (nthD (D.getL (nthD wa (Int.toNat i))) 0)))))))) (List.length sa)) 0 (List.length sa)), D.slc (Sh.agg [Sh.one, Sh.one]) wa, D.int .i64 f, D.bool u]) }, { sh := s32, dyn := false, frz := false, v := AV.agg [AV.fslc Sh.one [], AV.fslc Sh.one [], AV.fslc (Sh.agg [Sh.one, Sh.one]) [], .dat (.int .i64 0), .dat (.bool false)] }, { sh := Sh.agg [Sh.one, Sh.one], dyn := false, frz := false, v := .dat (.agg [D.int .i64 (D.getI (nthD (D.getL (nthD wa (Int.toNat i))) 0)), D.str (D.getS (nthD (D.getL (nthD wa (Int.toNat i))) 1))]) }]) else none) else none) else none) else none) else none) else none) else none) else none) else none)) else K (Exit.exit 0) (mkF 59 [(2, AV.ptr (s32) 0 0 []), (4, AV.ptr (s32) 1 0 [])]) ([{ sh := s32, dyn := false, frz := false, v := .dat (.agg [D.slc Sh.one nw, D.slc Sh.one sa, D.slc (Sh.agg [Sh.one, Sh.one]) wa, D.int .i64 f, D.bool u]) }, { sh := s32, dyn := false, frz := false, v := AV.agg [AV.fslc Sh.one [], AV.fslc Sh.one [], AV.fslc (Sh.agg [Sh.one, Sh.one]) [], .dat (.int .i64 0), .dat (.bool false)] }])) := by kernel_rfl
theorem rc_hr (lp : Loops) (nw wa ch : List D) (f : Int) (u : Bool) : ∀ (sA : (Int × List D)) (K : Kt) (N : (Int × List D) → Option Res), (∀ sB fr' σ', cleanF (liveAt Try.f18 0) 0 fr' = rc_fr nw wa ch f u sB → trim (2) (rc_fr nw wa ch f u sB) σ' = rc_st nw wa ch f u sB → K .normal fr' σ' = N sB) →
    oneRound (envOf tab SpX [] lp []) Try.f18 0 (2) (rc_fr nw wa ch f u sA) (rc_st nw wa ch f u sA) K = (rc_step nw wa ch f u sA).k (LK K N) := by
  intro sA K N hN
  obtain ⟨i, sa⟩ := sA
  refine (rc_round lp nw wa ch f u i sa K).trans ?_
  show _ = T.k ((
  .chk (!decide (i < (↑(List.length wa) : Int)) || bif decide (i < (↑(List.length ch) : Int)) then decide (0 ≤ i) && (decide (Int.toNat i < List.length ch) && (okE (Ek.int IntKind.u8) (nthD ch (Int.toNat i)) && bif decide (16 < IntKind.wrap IntKind.i64 (D.getI (nthD ch (Int.toNat i)))) then decide (Int.toNat i < List.length wa) && (okE (Ek.agg [Ek.int IntKind.i64, Ek.str]) (nthD wa (Int.toNat i)) && (decide (128 ≤ ByteArray.size (D.getS (nthD (D.getL (nthD wa (Int.toNat i))) 1))) && (decide (0 ≤ D.getI (nthD (D.getL (nthD wa (Int.toNat i))) 0)) && (decide (Int.toNat (D.getI (nthD (D.getL (nthD wa (Int.toNat i))) 0)) < List.length sa) && (okE Ek.str (nthD sa (Int.toNat (D.getI (nthD (D.getL (nthD wa (Int.toNat i))) 0)))) && (decide (128 ≤ ByteArray.size (D.getS (nthD sa (Int.toNat (D.getI (nthD (D.getL (nthD wa (Int.toNat i))) 0)))))) && decide (ByteArray.size (D.getS (nthD sa (Int.toNat (D.getI (nthD (D.getL (nthD wa (Int.toNat i))) 0))))) ≤ ByteArray.size (D.getS (nthD sa (Int.toNat (D.getI (nthD (D.getL (nthD wa (Int.toNat i))) 0)))))) && (decide (ByteArray.size (subStr (D.getS (nthD (D.getL (nthD wa (Int.toNat i))) 1)) 0 128) + ByteArray.size (subStr (D.getS (nthD sa (Int.toNat (D.getI (nthD (D.getL (nthD wa (Int.toNat i))) 0))))) 128 (ByteArray.size (D.getS (nthD sa (Int.toNat (D.getI (nthD (D.getL (nthD wa (Int.toNat i))) 0))))))) ≤ 35184372088832) && wth_pre sa (D.getI (nthD (D.getL (nthD wa (Int.toNat i))) 0)) (catStr (subStr (D.getS (nthD (D.getL (nthD wa (Int.toNat i))) 1)) 0 128) (subStr (D.getS (nthD sa (Int.toNat (D.getI (nthD (D.getL (nthD wa (Int.toNat i))) 0))))) 128 (ByteArray.size (D.getS (nthD sa (Int.toNat (D.getI (nthD (D.getL (nthD wa (Int.toNat i))) 0))))))))))))))) else decide (Int.toNat i < List.length wa) && (okE (Ek.agg [Ek.int IntKind.i64, Ek.str]) (nthD wa (Int.toNat i)) && (decide (0 ≤ IntKind.wrap IntKind.i64 (8 * IntKind.wrap IntKind.i64 (D.getI (nthD ch (Int.toNat i))))) && (decide (Int.toNat (IntKind.wrap IntKind.i64 (8 * IntKind.wrap IntKind.i64 (D.getI (nthD ch (Int.toNat i))))) ≤ ByteArray.size (D.getS (nthD (D.getL (nthD wa (Int.toNat i))) 1))) && (decide (0 ≤ D.getI (nthD (D.getL (nthD wa (Int.toNat i))) 0)) && (decide (Int.toNat (D.getI (nthD (D.getL (nthD wa (Int.toNat i))) 0)) < List.length sa) && (okE Ek.str (nthD sa (Int.toNat (D.getI (nthD (D.getL (nthD wa (Int.toNat i))) 0)))) && (decide (Int.toNat (IntKind.wrap IntKind.i64 (8 * IntKind.wrap IntKind.i64 (D.getI (nthD ch (Int.toNat i))))) ≤ ByteArray.size (D.getS (nthD sa (Int.toNat (D.getI (nthD (D.getL (nthD wa (Int.toNat i))) 0)))))) && decide (ByteArray.size (D.getS (nthD sa (Int.toNat (D.getI (nthD (D.getL (nthD wa (Int.toNat i))) 0))))) ≤ ByteArray.size (D.getS (nthD sa (Int.toNat (D.getI (nthD (D.getL (nthD wa (Int.toNat i))) 0)))))) && (decide (ByteArray.size (subStr (D.getS (nthD (D.getL (nthD wa (Int.toNat i))) 1)) 0 (Int.toNat (IntKind.wrap IntKind.i64 (8 * IntKind.wrap IntKind.i64 (D.getI (nthD ch (Int.toNat i))))))) + ByteArray.size (subStr (D.getS (nthD sa (Int.toNat (D.getI (nthD (D.getL (nthD wa (Int.toNat i))) 0))))) (Int.toNat (IntKind.wrap IntKind.i64 (8 * IntKind.wrap IntKind.i64 (D.getI (nthD ch (Int.toNat i)))))) (ByteArray.size (D.getS (nthD sa (Int.toNat (D.getI (nthD (D.getL (nthD wa (Int.toNat i))) 0))))))) ≤ 35184372088832) && wth_pre sa (D.getI (nthD (D.getL (nthD wa (Int.toNat i))) 0)) (catStr (subStr (D.getS (nthD (D.getL (nthD wa (Int.toNat i))) 1)) 0 (Int.toNat (IntKind.wrap IntKind.i64 (8 * IntKind.wrap IntKind.i64 (D.getI (nthD ch (Int.toNat i))))))) (subStr (D.getS (nthD sa (Int.toNat (D.getI (nthD (D.getL (nthD wa (Int.toNat i))) 0))))) (Int.toNat (IntKind.wrap IntKind.i64 (8 * IntKind.wrap IntKind.i64 (D.getI (nthD ch (Int.toNat i)))))) (ByteArray.size (D.getS (nthD sa (Int.toNat (D.getI (nthD (D.getL (nthD wa (Int.toNat i))) 0)))))))))))))))))) else decide (0 ≤ i) && (decide (Int.toNat i < List.length wa) && (okE (Ek.agg [Ek.int IntKind.i64, Ek.str]) (nthD wa (Int.toNat i)) && (decide (0 ≤ D.getI (nthD (D.getL (nthD wa (Int.toNat i))) 0)) && (decide (Int.toNat (D.getI (nthD (D.getL (nthD wa (Int.toNat i))) 0)) < List.length sa) && (okE Ek.str (nthD sa (Int.toNat (D.getI (nthD (D.getL (nthD wa (Int.toNat i))) 0)))) && (decide (ByteArray.size (D.getS (nthD sa (Int.toNat (D.getI (nthD (D.getL (nthD wa (Int.toNat i))) 0))))) ≤ ByteArray.size (D.getS (nthD sa (Int.toNat (D.getI (nthD (D.getL (nthD wa (Int.toNat i))) 0)))))) && (decide (0 + ByteArray.size (subStr (D.getS (nthD sa (Int.toNat (D.getI (nthD (D.getL (nthD wa (Int.toNat i))) 0))))) 0 (ByteArray.size (D.getS (nthD sa (Int.toNat (D.getI (nthD (D.getL (nthD wa (Int.toNat i))) 0))))))) ≤ 35184372088832) && wth_pre sa (D.getI (nthD (D.getL (nthD wa (Int.toNat i))) 0)) (catStr (subStr (D.getS (nthD (D.getL (nthD wa (Int.toNat i))) 1)) 0 0) (subStr (D.getS (nthD sa (Int.toNat (D.getI (nthD (D.getL (nthD wa (Int.toNat i))) 0))))) 0 (ByteArray.size (D.getS (nthD sa (Int.toNat (D.getI (nthD (D.getL (nthD wa (Int.toNat i))) 0)))))))))))))))) (
   .br (!decide (i < (↑(List.length wa) : Int))) (.leaf (.inr ((some 0), mkF 59 [(2, AV.ptr (s32) 0 0 []), (4, AV.ptr (s32) 1 0 [])], [{ sh := s32, dyn := false, frz := false, v := .dat (.agg [D.slc Sh.one nw, D.slc Sh.one sa, D.slc (Sh.agg [Sh.one, Sh.one]) wa, D.int .i64 f, D.bool u]) }, { sh := s32, dyn := false, frz := false, v := AV.agg [AV.fslc Sh.one [], AV.fslc Sh.one [], AV.fslc (Sh.agg [Sh.one, Sh.one]) [], .dat (.int .i64 0), .dat (.bool false)] }]))) (.leaf (.inl ((IntKind.wrap IntKind.i64 (i + 1)), (bif decide (i < (↑(List.length ch) : Int)) then bif decide (16 < IntKind.wrap IntKind.i64 (D.getI (nthD ch (Int.toNat i)))) then seg (wiTo sa (D.getI (nthD (D.getL (nthD wa (Int.toNat i))) 0)) (catStr (subStr (D.getS (nthD (D.getL (nthD wa (Int.toNat i))) 1)) 0 128) (subStr (D.getS (nthD sa (Int.toNat (D.getI (nthD (D.getL (nthD wa (Int.toNat i))) 0))))) 128 (ByteArray.size (D.getS (nthD sa (Int.toNat (D.getI (nthD (D.getL (nthD wa (Int.toNat i))) 0)))))))) (List.length sa)) 0 (List.length sa) else seg (wiTo sa (D.getI (nthD (D.getL (nthD wa (Int.toNat i))) 0)) (catStr (subStr (D.getS (nthD (D.getL (nthD wa (Int.toNat i))) 1)) 0 (Int.toNat (IntKind.wrap IntKind.i64 (8 * IntKind.wrap IntKind.i64 (D.getI (nthD ch (Int.toNat i))))))) (subStr (D.getS (nthD sa (Int.toNat (D.getI (nthD (D.getL (nthD wa (Int.toNat i))) 0))))) (Int.toNat (IntKind.wrap IntKind.i64 (8 * IntKind.wrap IntKind.i64 (D.getI (nthD ch (Int.toNat i)))))) (ByteArray.size (D.getS (nthD sa (Int.toNat (D.getI (nthD (D.getL (nthD wa (Int.toNat i))) 0)))))))) (List.length sa)) 0 (List.length sa) else seg (wiTo sa (D.getI (nthD (D.getL (nthD wa (Int.toNat i))) 0)) (catStr (subStr (D.getS (nthD (D.getL (nthD wa (Int.toNat i))) 1)) 0 0) (subStr (D.getS (nthD sa (Int.toNat (D.getI (nthD (D.getL (nthD wa (Int.toNat i))) 0))))) 0 (ByteArray.size (D.getS (nthD sa (Int.toNat (D.getI (nthD (D.getL (nthD wa (Int.toNat i))) 0)))))))) (List.length sa)) 0 (List.length sa))))))) : T ((Int × List D) ⊕ LOut)) (LK K N)
  generalize (decide (ByteArray.size (subStr (D.getS (nthD (D.getL (nthD wa (Int.toNat i))) 1)) 0 (Int.toNat (IntKind.wrap IntKind.i64 (8 * IntKind.wrap IntKind.i64 (D.getI (nthD ch (Int.toNat i))))))) + ByteArray.size (subStr (D.getS (nthD sa (Int.toNat (D.getI (nthD (D.getL (nthD wa (Int.toNat i))) 0))))) (Int.toNat (IntKind.wrap IntKind.i64 (8 * IntKind.wrap IntKind.i64 (D.getI (nthD ch (Int.toNat i)))))) (ByteArray.size (D.getS (nthD sa (Int.toNat (D.getI (nthD (D.getL (nthD wa (Int.toNat i))) 0))))))) ≤ 35184372088832)) = z0
  generalize (decide (ByteArray.size (subStr (D.getS (nthD (D.getL (nthD wa (Int.toNat i))) 1)) 0 128) + ByteArray.size (subStr (D.getS (nthD sa (Int.toNat (D.getI (nthD (D.getL (nthD wa (Int.toNat i))) 0))))) 128 (ByteArray.size (D.getS (nthD sa (Int.toNat (D.getI (nthD (D.getL (nthD wa (Int.toNat i))) 0))))))) ≤ 35184372088832)) = z1
  generalize (decide (Int.toNat (IntKind.wrap IntKind.i64 (8 * IntKind.wrap IntKind.i64 (D.getI (nthD ch (Int.toNat i))))) ≤ ByteArray.size (D.getS (nthD sa (Int.toNat (D.getI (nthD (D.getL (nthD wa (Int.toNat i))) 0)))))) && decide (ByteArray.size (D.getS (nthD sa (Int.toNat (D.getI (nthD (D.getL (nthD wa (Int.toNat i))) 0))))) ≤ ByteArray.size (D.getS (nthD sa (Int.toNat (D.getI (nthD (D.getL (nthD wa (Int.toNat i))) 0))))))) = z2
  generalize (decide (128 ≤ ByteArray.size (D.getS (nthD sa (Int.toNat (D.getI (nthD (D.getL (nthD wa (Int.toNat i))) 0)))))) && decide (ByteArray.size (D.getS (nthD sa (Int.toNat (D.getI (nthD (D.getL (nthD wa (Int.toNat i))) 0))))) ≤ ByteArray.size (D.getS (nthD sa (Int.toNat (D.getI (nthD (D.getL (nthD wa (Int.toNat i))) 0))))))) = z3
  generalize (decide (0 + ByteArray.size (subStr (D.getS (nthD sa (Int.toNat (D.getI (nthD (D.getL (nthD wa (Int.toNat i))) 0))))) 0 (ByteArray.size (D.getS (nthD sa (Int.toNat (D.getI (nthD (D.getL (nthD wa (Int.toNat i))) 0))))))) ≤ 35184372088832)) = z4
  generalize (wth_pre sa (D.getI (nthD (D.getL (nthD wa (Int.toNat i))) 0)) (catStr (subStr (D.getS (nthD (D.getL (nthD wa (Int.toNat i))) 1)) 0 (Int.toNat (IntKind.wrap IntKind.i64 (8 * IntKind.wrap IntKind.i64 (D.getI (nthD ch (Int.toNat i))))))) (subStr (D.getS (nthD sa (Int.toNat (D.getI (nthD (D.getL (nthD wa (Int.toNat i))) 0))))) (Int.toNat (IntKind.wrap IntKind.i64 (8 * IntKind.wrap IntKind.i64 (D.getI (nthD ch (Int.toNat i)))))) (ByteArray.size (D.getS (nthD sa (Int.toNat (D.getI (nthD (D.getL (nthD wa (Int.toNat i))) 0))))))))) = z5
  generalize (wth_pre sa (D.getI (nthD (D.getL (nthD wa (Int.toNat i))) 0)) (catStr (subStr (D.getS (nthD (D.getL (nthD wa (Int.toNat i))) 1)) 0 128) (subStr (D.getS (nthD sa (Int.toNat (D.getI (nthD (D.getL (nthD wa (Int.toNat i))) 0))))) 128 (ByteArray.size (D.getS (nthD sa (Int.toNat (D.getI (nthD (D.getL (nthD wa (Int.toNat i))) 0))))))))) = z6
  generalize (wth_pre sa (D.getI (nthD (D.getL (nthD wa (Int.toNat i))) 0)) (catStr (subStr (D.getS (nthD (D.getL (nthD wa (Int.toNat i))) 1)) 0 0) (subStr (D.getS (nthD sa (Int.toNat (D.getI (nthD (D.getL (nthD wa (Int.toNat i))) 0))))) 0 (ByteArray.size (D.getS (nthD sa (Int.toNat (D.getI (nthD (D.getL (nthD wa (Int.toNat i))) 0))))))))) = z7
  generalize (decide (Int.toNat (IntKind.wrap IntKind.i64 (8 * IntKind.wrap IntKind.i64 (D.getI (nthD ch (Int.toNat i))))) ≤ ByteArray.size (D.getS (nthD (D.getL (nthD wa (Int.toNat i))) 1)))) = z8
  generalize (decide (ByteArray.size (D.getS (nthD sa (Int.toNat (D.getI (nthD (D.getL (nthD wa (Int.toNat i))) 0))))) ≤ ByteArray.size (D.getS (nthD sa (Int.toNat (D.getI (nthD (D.getL (nthD wa (Int.toNat i))) 0))))))) = z9
  generalize (decide (0 ≤ IntKind.wrap IntKind.i64 (8 * IntKind.wrap IntKind.i64 (D.getI (nthD ch (Int.toNat i)))))) = z10
  generalize (decide (128 ≤ ByteArray.size (D.getS (nthD (D.getL (nthD wa (Int.toNat i))) 1)))) = z11
  generalize (decide (0 ≤ D.getI (nthD (D.getL (nthD wa (Int.toNat i))) 0))) = z12
  generalize (decide (Int.toNat (D.getI (nthD (D.getL (nthD wa (Int.toNat i))) 0)) < List.length sa)) = z13
  generalize (decide (16 < IntKind.wrap IntKind.i64 (D.getI (nthD ch (Int.toNat i))))) = z14
  generalize (decide (i < (↑(List.length wa) : Int))) = z15
  generalize (decide (i < (↑(List.length ch) : Int))) = z16
  generalize (decide (0 ≤ i)) = z17
  generalize (okE Ek.str (nthD sa (Int.toNat (D.getI (nthD (D.getL (nthD wa (Int.toNat i))) 0))))) = z18
  generalize (decide (Int.toNat i < List.length wa)) = z19
  generalize (decide (Int.toNat i < List.length ch)) = z20
  generalize (okE (Ek.agg [Ek.int IntKind.i64, Ek.str]) (nthD wa (Int.toNat i))) = z21
  generalize (okE (Ek.int IntKind.u8) (nthD ch (Int.toNat i))) = z22
  cases z15 with
  | true =>
   cases z16 with
   | true =>
    cases z17 with
    | true =>
     cases z20 with
     | true =>
      cases z22 with
      | true =>
       cases z14 with
       | true =>
        cases z19 with
        | true =>
         cases z21 with
         | true =>
          cases z11 with
          | true =>
           cases z12 with
           | true =>
            cases z13 with
            | true =>
             cases z18 with
             | true =>
              cases z3 with
              | true =>
               cases z1 with
               | true =>
                cases z6 with
                | true =>
                 exact hN _ _ _ (by kernel_rfl) (by kernel_rfl)
                | false =>
                 rfl
               | false =>
                rfl
              | false =>
               rfl
             | false =>
              rfl
            | false =>
             rfl
           | false =>
            rfl
          | false =>
           rfl
         | false =>
          rfl
        | false =>
         rfl
       | false =>
        cases z19 with
        | true =>
         cases z21 with
         | true =>
          cases z10 with
          | true =>
           cases z8 with
           | true =>
            cases z12 with
            | true =>
             cases z13 with
             | true =>
              cases z18 with
              | true =>
               cases z2 with
               | true =>
                cases z0 with
                | true =>
                 cases z5 with
                 | true =>
                  exact hN _ _ _ (by kernel_rfl) (by kernel_rfl)
                 | false =>
                  rfl
                | false =>
                 rfl
               | false =>
                rfl
              | false =>
               rfl
             | false =>
              rfl
            | false =>
             rfl
           | false =>
            rfl
          | false =>
           rfl
         | false =>
          rfl
        | false =>
         rfl
      | false =>
       rfl
     | false =>
      rfl
    | false =>
     rfl
   | false =>
    cases z17 with
    | true =>
     cases z19 with
     | true =>
      cases z21 with
      | true =>
       cases z12 with
       | true =>
        cases z13 with
        | true =>
         cases z18 with
         | true =>
          cases z9 with
          | true =>
           cases z4 with
           | true =>
            cases z7 with
            | true =>
             exact hN _ _ _ (by kernel_rfl) (by kernel_rfl)
            | false =>
             rfl
           | false =>
            rfl
          | false =>
           rfl
         | false =>
          rfl
        | false =>
         rfl
       | false =>
        rfl
      | false =>
       rfl
     | false =>
      rfl
    | false =>
     rfl
  | false =>
   rfl
theorem rc_enter (nw wa ch : List D) (f : Int) (u : Bool) (i : Int) (sa : List D) (fr : Frame') (hl : Nat.beq fr.length 59 = true) (g1 : fr.getD 1 .undef = .dat (.slc Sh.one ch)) (g2 : fr.getD 2 .undef = AV.ptr (s32) 0 0 []) (g4 : fr.getD 4 .undef = AV.ptr (s32) 1 0 []) (g5 : fr.getD 5 .undef = .dat (.int .i64 i)) : cleanF (liveAt Try.f18 0) 0 fr = rc_fr nw wa ch f u (i, sa) := by
  have e : liveAt Try.f18 0 = [1, 5, 2, 4] := by kernel_rfl
  rw [clean_mk (Nat.eq_of_beq_eq_true hl), e]
  show mkF 59 [(1, fr.getD 1 .undef), (5, fr.getD 5 .undef), (2, fr.getD 2 .undef), (4, fr.getD 4 .undef)] = _
  rw [g1, g5, g2, g4]
  kernel_rfl
abbrev aAt (w : D) : Int := D.getI (nthD (D.getL w) 0)
abbrev aWas (w : D) : ByteArray := D.getS (nthD (D.getL w) 1)
def rcN (ch : List D) (i : Nat) : Nat := bif decide (i < ch.length) then (bif decide (16 < D.getI (nthD ch i)) then 128 else (8 * D.getI (nthD ch i)).toNat) else 0
def rcW (n : Nat) (sa : List D) (w : D) : List D := wiTo sa (aAt w) (catStr (subStr (aWas w) 0 n) (subStr (D.getS (nthD sa (aAt w).toNat)) n (D.getS (nthD sa (aAt w).toNat)).size)) sa.length
def rcTo (ch wa sa : List D) : Nat → List D
  | 0 => sa
  | i + 1 => rcW (rcN ch i) (rcTo ch wa sa i) (nthD wa i)
abbrev okT (d : D) : Bool := okE .str d && decide ((D.getS d).size = 128)
abbrev okWa (k : Nat) (w : D) : Bool := okE (.agg [.int .i64, .str]) w && (decide ((aWas w).size = 128) && (decide (0 ≤ aAt w) && decide (aAt w < (k : Int))))
abbrev okX (k : Nat) (wa sa : List D) : Bool := (decide (sa.length = k) && decide (k ≤ 1099511627776)) && (sa.all okT && (wa.all (okWa k) && decide (wa.length ≤ 1099511627776)))
theorem rcN_le {ch : List D} (h : ch.all okU8 = true) (i : Nat) : rcN ch i ≤ 128 := by
  unfold rcN
  by_cases hi : i < ch.length
  · have hu := List.all_eq_true.1 h _ (nthD_mem hi)
    simp only [okU8, Bool.and_eq_true, decide_eq_true_eq] at hu
    rw [decide_eq_true hi, cond_true]
    by_cases h2 : 16 < D.getI (nthD ch i)
    · rw [decide_eq_true h2]; exact Nat.le_refl _
    · rw [decide_eq_false h2, cond_false]; omega
  · rw [decide_eq_false hi]; exact Nat.zero_le _
theorem okT_str {s : ByteArray} (h : s.size = 128) : okT (.str s) = true := by
  show (okE .str (.str s) && decide (s.size = 128)) = true
  rw [decide_eq_true h]; rfl
theorem wiTo_all {l : List D} {n : Int} {s : ByteArray} (h : l.all okT = true) (hs : s.size = 128) : ∀ i, i ≤ l.length → (wiTo l n s i).all okT = true
  | 0, _ => rfl
  | i + 1, hi => by
    rw [wiTo, List.all_append, wiTo_all h hs i (by omega), Bool.true_and]
    have h1 := List.all_eq_true.1 h _ (nthD_mem (show i < l.length by omega))
    simp only [okT, Bool.and_eq_true, decide_eq_true_eq] at h1
    cases (i : Int) == n with
    | true => rw [cond_true, List.all_cons, okT_str hs]; rfl
    | false => rw [cond_false, List.all_cons, okT_str h1.2]; rfl
theorem cat_size (a b : ByteArray) : (catStr a b).size = a.size + b.size := by
  unfold catStr ByteArray.size
  exact Array.size_append
theorem rcW_ok {k n : Nat} {sa : List D} {w : D} (hn : n ≤ 128) (h0 : sa.length = k) (h1 : sa.all okT = true) (hw : (aWas w).size = 128) (ha : 0 ≤ aAt w) (hb : aAt w < (k : Int)) : (rcW n sa w).length = k ∧ (rcW n sa w).all okT = true := by
  unfold rcW
  have h2 := List.all_eq_true.1 h1 _ (nthD_mem (show (aAt w).toNat < sa.length by omega))
  simp only [okT, Bool.and_eq_true, decide_eq_true_eq] at h2
  refine ⟨by rw [wiTo_length]; exact h0, wiTo_all h1 ?_ _ (Nat.le_refl _)⟩
  rw [cat_size, sub_size _ _ _ (Nat.zero_le _) (by omega), sub_size _ _ _ (by omega) (Nat.le_refl _)]
  omega
theorem rcTo_ok {k : Nat} {ch wa sa : List D} (hch : ch.all okU8 = true) (h0 : sa.length = k) (h1 : sa.all okT = true) (hw : wa.all (okWa k) = true) : ∀ i, i ≤ wa.length → (rcTo ch wa sa i).length = k ∧ (rcTo ch wa sa i).all okT = true
  | 0, _ => ⟨h0, h1⟩
  | i + 1, hi => by
    obtain ⟨h2, h3⟩ := rcTo_ok hch h0 h1 hw i (by omega)
    have hx := List.all_eq_true.1 hw _ (nthD_mem (show i < wa.length by omega))
    simp only [okWa, Bool.and_eq_true, decide_eq_true_eq] at hx
    exact rcW_ok (rcN_le hch i) h2 h3 hx.2.1 hx.2.2.1 hx.2.2.2
theorem rc_closed (nw wa ch : List D) (f : Int) (u : Bool) (sa0 : List D) (hc : (okX sa0.length wa sa0 && ch.all okU8) = true) :
    ∃ z, (iterT (rc_step nw wa ch f u) z (0, sa0)).run = T.run (.leaf (some 0, mkF 59 [(2, .ptr s32 0 0 []), (4, .ptr s32 1 0 [])], [xB nw (rcTo ch wa sa0 wa.length) wa f u, zB])) := by
  simp only [okX, Bool.and_eq_true, decide_eq_true_eq] at hc
  obtain ⟨⟨⟨-, h0⟩, h1, h2, h3⟩, hch⟩ := hc
  refine iter_range (n := wa.length) (fun i => rcTo ch wa sa0 i) (fun i hi => ?_) ?_
  · obtain ⟨g1, g2⟩ := rcTo_ok hch rfl h1 h2 i (by omega)
    have hx := List.all_eq_true.1 h2 _ (nthD_mem hi)
    simp only [okWa, Bool.and_eq_true, decide_eq_true_eq] at hx
    obtain ⟨x1, x2, x3, x4⟩ := hx
    have ht := List.all_eq_true.1 g2 _ (nthD_mem (show (aAt (nthD wa i)).toNat < (rcTo ch wa sa0 i).length by omega))
    simp only [okT, Bool.and_eq_true, decide_eq_true_eq] at ht
    have hn := rcN_le hch i
    have hall : okStrs (rcTo ch wa sa0 i) = true := by
      simp only [okStrs, Bool.and_eq_true, decide_eq_true_eq]
      refine ⟨List.all_eq_true.2 fun d hd => ?_, by omega⟩
      have := List.all_eq_true.1 g2 d hd
      simp only [okT, Bool.and_eq_true] at this
      exact this.1
    have hwp : ∀ s, wth_pre (rcTo ch wa sa0 i) (aAt (nthD wa i)) s = true := fun s => by
      unfold wth_pre
      rw [hall, wiTo_length, Nat.beq_refl]; rfl
    have hsg : ∀ s, seg (wiTo (rcTo ch wa sa0 i) (aAt (nthD wa i)) s (rcTo ch wa sa0 i).length) 0 (rcTo ch wa sa0 i).length = wiTo (rcTo ch wa sa0 i) (aAt (nthD wa i)) s (rcTo ch wa sa0 i).length := fun s => by
      rw [seg_take, List.take_of_length_le (by rw [wiTo_length]; exact Nat.le_refl _)]
    have hsz : ∀ n, n ≤ 128 → (subStr (aWas (nthD wa i)) 0 n).size + (subStr (D.getS (nthD (rcTo ch wa sa0 i) (aAt (nthD wa i)).toNat)) n (D.getS (nthD (rcTo ch wa sa0 i) (aAt (nthD wa i)).toNat)).size).size = 128 := fun n hn => by
      rw [sub_size _ _ _ (Nat.zero_le _) (by omega), sub_size _ _ _ (by omega) (Nat.le_refl _)]; omega
    have hr : rcTo ch wa sa0 (i + 1) = rcW (rcN ch i) (rcTo ch wa sa0 i) (nthD wa i) := rfl
    by_cases hi2 : i < ch.length
    · have hu := List.all_eq_true.1 hch _ (nthD_mem hi2)
      simp only [okU8, Bool.and_eq_true, decide_eq_true_eq] at hu
      obtain ⟨u1, u2, u3⟩ := hu
      have w1 : IntKind.wrap .i64 (D.getI (nthD ch i)) = D.getI (nthD ch i) := by rw [IntKind.wrap_i64]; omega
      by_cases h16 : 16 < D.getI (nthD ch i)
      · have e : rcN ch i = 128 := by unfold rcN; rw [decide_eq_true hi2, decide_eq_true h16]; rfl
        rw [hr, e]
        unfold rc_step rcW
        simp only [w1, Int.toNat_natCast, decide_eq_true (show (i : Int) < (wa.length : Int) by omega), decide_eq_true (show (0 : Int) ≤ (i : Int) by omega), decide_eq_true (show (i : Int) < (ch.length : Int) by omega), decide_eq_true hi2, decide_eq_true hi, u1, decide_eq_true h16, x1, decide_eq_true (show 128 ≤ (aWas (nthD wa i)).size by omega), decide_eq_true x3, decide_eq_true (show (aAt (nthD wa i)).toNat < (rcTo ch wa sa0 i).length by omega), ht.1, decide_eq_true (show 128 ≤ (D.getS (nthD (rcTo ch wa sa0 i) (aAt (nthD wa i)).toNat)).size by omega), decide_eq_true (Nat.le_refl (D.getS (nthD (rcTo ch wa sa0 i) (aAt (nthD wa i)).toNat)).size), hsz 128 (by omega), decide_eq_true (show 128 ≤ 35184372088832 by omega), hwp, hsg, wrap_succ (show i < 2 ^ 62 by omega), Bool.not_true, Bool.false_or, Bool.true_and, Bool.and_true, T.run_br, T.run_chk, T.run_leaf, cond_true, cond_false]
      · have e : rcN ch i = (8 * D.getI (nthD ch i)).toNat := by unfold rcN; rw [decide_eq_true hi2, decide_eq_false h16]; rfl
        have w2 : IntKind.wrap .i64 (8 * D.getI (nthD ch i)) = 8 * D.getI (nthD ch i) := by rw [IntKind.wrap_i64]; omega
        have hn' : (8 * D.getI (nthD ch i)).toNat ≤ 128 := by omega
        rw [hr, e]
        unfold rc_step rcW
        simp only [w1, w2, Int.toNat_natCast, decide_eq_true (show (i : Int) < (wa.length : Int) by omega), decide_eq_true (show (0 : Int) ≤ (i : Int) by omega), decide_eq_true (show (i : Int) < (ch.length : Int) by omega), decide_eq_true hi2, decide_eq_true hi, u1, decide_eq_false h16, x1, decide_eq_true (show 0 ≤ 8 * D.getI (nthD ch i) by omega), decide_eq_true (show (8 * D.getI (nthD ch i)).toNat ≤ (aWas (nthD wa i)).size by omega), decide_eq_true x3, decide_eq_true (show (aAt (nthD wa i)).toNat < (rcTo ch wa sa0 i).length by omega), ht.1, decide_eq_true (show (8 * D.getI (nthD ch i)).toNat ≤ (D.getS (nthD (rcTo ch wa sa0 i) (aAt (nthD wa i)).toNat)).size by omega), decide_eq_true (Nat.le_refl (D.getS (nthD (rcTo ch wa sa0 i) (aAt (nthD wa i)).toNat)).size), hsz _ hn', decide_eq_true (show 128 ≤ 35184372088832 by omega), hwp, hsg, wrap_succ (show i < 2 ^ 62 by omega), Bool.not_true, Bool.false_or, Bool.true_and, Bool.and_true, T.run_br, T.run_chk, T.run_leaf, cond_true, cond_false]
    · have e : rcN ch i = 0 := by unfold rcN; rw [decide_eq_false hi2]; rfl
      have h00 : (subStr (D.getS (nthD (rcTo ch wa sa0 i) (aAt (nthD wa i)).toNat)) 0 (D.getS (nthD (rcTo ch wa sa0 i) (aAt (nthD wa i)).toNat)).size).size = 128 := by rw [sub_size _ _ _ (Nat.zero_le _) (Nat.le_refl _)]; omega
      rw [hr, e]
      unfold rc_step rcW
      simp only [h00, decide_eq_true (show 0 + 128 ≤ 35184372088832 by omega), Int.toNat_natCast, decide_eq_true (show (i : Int) < (wa.length : Int) by omega), decide_eq_true (show (0 : Int) ≤ (i : Int) by omega), decide_eq_false (show ¬ (i : Int) < (ch.length : Int) by omega), decide_eq_true hi, x1, decide_eq_true x3, decide_eq_true (show (aAt (nthD wa i)).toNat < (rcTo ch wa sa0 i).length by omega), ht.1, decide_eq_true (Nat.le_refl (D.getS (nthD (rcTo ch wa sa0 i) (aAt (nthD wa i)).toNat)).size), hwp, hsg, wrap_succ (show i < 2 ^ 62 by omega), Bool.not_true, Bool.false_or, Bool.true_and, Bool.and_true, T.run_br, T.run_chk, T.run_leaf, cond_true, cond_false]
  · unfold rc_step
    simp only [decide_eq_false (show ¬ (wa.length : Int) < (wa.length : Int) by omega)]
    rfl
def L_rc : Frame' → Store → T (Exit × Frame' × Store) := fun fr σ => match fr.getD 1 .undef, fr.getD 2 .undef, fr.getD 4 .undef, fr.getD 5 .undef, σ with
  | AV.dat (D.slc Sh.one ch), AV.ptr (Sh.agg [Sh.one, Sh.one, Sh.one, Sh.one, Sh.one]) 0 0 [], AV.ptr (Sh.agg [Sh.one, Sh.one, Sh.one, Sh.one, Sh.one]) 1 0 [], AV.dat (D.int IntKind.i64 0), [{ sh := Sh.agg [Sh.one, Sh.one, Sh.one, Sh.one, Sh.one], dyn := false, frz := false, v := AV.dat (D.agg [D.slc Sh.one nw, D.slc Sh.one sa, D.slc (Sh.agg [Sh.one, Sh.one]) wa, D.int IntKind.i64 f, D.bool u]) }, { sh := Sh.agg [Sh.one, Sh.one, Sh.one, Sh.one, Sh.one], dyn := false, frz := false, v := AV.agg [AV.fslc Sh.one [], AV.fslc Sh.one [], AV.fslc (Sh.agg [Sh.one, Sh.one]) [], AV.dat (D.int IntKind.i64 0), AV.dat (D.bool false)] }] => .chk (Nat.beq fr.length 59 && (okX sa.length wa sa && ch.all okU8)) (T.bind (.leaf (some 0, mkF 59 [(2, .ptr s32 0 0 []), (4, .ptr s32 1 0 [])], [xB nw (rcTo ch wa sa wa.length) wa f u, zB])) fun o => .leaf (outEx o.1, o.2.1, o.2.2))
  | _, _, _, _, _ => .fail
theorem rc_sem (lp : Loops) : ∀ fr σ p, (L_rc fr σ).run = some p → ∀ (K : Kt) r, K p.1 p.2.1 p.2.2 = some r → ∃ n, loopRun (envOf tab SpX [] lp []) Try.f18 0 σ.length n (cleanF (liveAt Try.f18 0) 0 fr) σ K = some r := by
  intro fr σ p h K r hK
  unfold L_rc at h
  split at h
  · rename_i ch nw sa wa f u g1 g2 g4 g5
    obtain ⟨hc, h'⟩ := T.chk_some h
    rw [Bool.and_eq_true] at hc
    obtain ⟨hl, hc⟩ := hc
    obtain ⟨o, ho, h'⟩ := T.bind_some h'
    have hp := T.leaf_some h'
    subst hp
    obtain ⟨nF, hn⟩ : ∃ nF, (iterT (rc_step nw wa ch f u) nF ((0, sa))).run = T.run (.leaf (some 0, mkF 59 [(2, .ptr s32 0 0 []), (4, .ptr s32 1 0 [])], [xB nw (rcTo ch wa sa wa.length) wa f u, zB])) := rc_closed nw wa ch f u sa hc
    rw [ho] at hn
    refine ⟨nF, ?_⟩
    have he : cleanF (liveAt Try.f18 0) 0 fr = rc_fr nw wa ch f u ((0, sa)) := rc_enter nw wa ch f u _ _ fr hl g1 g2 g4 g5
    refine (iter_ok (base := 2) (rc_hr lp nw wa ch f u) K nF ((0, sa)) _ _ (by rw [clean_clean]; exact he) (by kernel_rfl)).trans ?_
    rw [T.k_run hn]
    exact hK
  · simp [T.run_fail] at h
theorem rc_loopOk {k : Nat} (lp : Loops) (hk : Loops.get lp 2 = some L_rc) : LoopOkN Try.prog k (envOf tab SpX [] lp []) (loopAt Try.f18 0).1 (loopAt Try.f18 0).2 := loop_okN (L := L_rc) (by kernel_rfl) hk (rc_sem lp)
def rcrash_pre (sa : List D) (wa : List D) (ch : List D) : Bool := okX (List.length sa) wa sa && List.all ch okU8
def C_rcrash : FunT := fun args σ => match args, σ with
  | [AV.dat (D.agg [D.slc Sh.one _, D.slc Sh.one sa, D.slc (Sh.agg [Sh.one, Sh.one]) wa, D.int IntKind.i64 _, D.bool _]), AV.dat (D.slc Sh.one ch)], [] => .chk ((rcrash_pre sa wa ch)) (.leaf ([AV.dat (D.agg [D.slc Sh.one (rcTo ch wa sa (List.length wa)), D.slc Sh.one (rcTo ch wa sa (List.length wa)), D.slc (Sh.agg [Sh.one, Sh.one]) [], D.int IntKind.i64 (-1 : Int), D.bool false])], []))
  | _, _ => .fail
theorem rcrash_raw0 (nw sa wa ch : List D) (f : Int) (u : Bool) : runF (envOf tab SpX [] [(2, L_rc)] []) true Try.f18 [.dat (.agg [.slc .one nw, .slc .one sa, .slc (.agg [.one, .one]) wa, .int .i64 f, .bool u]), .dat (.slc .one ch)] [] =
  (bif okX (List.length sa) wa sa && List.all ch okU8 then some ([.dat (.agg [D.slc Sh.one (rcTo ch wa sa (List.length wa)), D.slc Sh.one (rcTo ch wa sa (List.length wa)), D.slc (Sh.agg [Sh.one, Sh.one]) [], D.int .i64 (-1 : Int), D.bool false])], []) else none) := by kernel_rfl
theorem rcrash_case0 (nw sa wa ch : List D) (f : Int) (u : Bool) : runF (envOf tab SpX [] [(2, L_rc)] []) true Try.f18 [.dat (.agg [.slc .one nw, .slc .one sa, .slc (.agg [.one, .one]) wa, .int .i64 f, .bool u]), .dat (.slc .one ch)] [] = FunT.run C_rcrash [.dat (.agg [.slc .one nw, .slc .one sa, .slc (.agg [.one, .one]) wa, .int .i64 f, .bool u]), .dat (.slc .one ch)] [] := (rcrash_raw0 nw sa wa ch f u).trans (by
  show _ = (cond (okX (List.length sa) wa sa && List.all ch okU8) (some (([.dat (.agg [D.slc Sh.one (rcTo ch wa sa (List.length wa)), D.slc Sh.one (rcTo ch wa sa (List.length wa)), D.slc (Sh.agg [Sh.one, Sh.one]) [], D.int .i64 (-1 : Int), D.bool false])], []) : Res)) none)
  generalize (okX (List.length sa) wa sa && List.all ch okU8) = z0
  cases z0 with
  | true =>
   rfl
  | false =>
   rfl
  )
theorem crcrash_ok : FunOk Try.prog 18 (FunT.run C_rcrash) := by
  refine fun_ok (E := envOf tab SpX [] [(2, L_rc)] []) (fz := true) (fn := Try.f18) (envOf_ok progOk SpX_ok) (by kernel_rfl) (by kernel_rfl) (loops_one (by kernel_rfl) (rc_loopOk _ rfl)) ?_
  intro args σ r h
  unfold C_rcrash at h
  split at h
  · exact (rcrash_case0 _ _ _ _ _ _).trans h
  · simp [T.run_fail] at h
end Go.Proofs.Ythhipekbkodjoaa
