/- Seat 07: deeds, done to a disk and to the document's. -/
import Derived.Test.YthhipekbkodjoaaI
namespace Go.Proofs.Ythhipekbkodjoaa
open Go.AX
set_option maxRecDepth 100000
abbrev SpR : Specs := [(11, C_write), (12, C_rwrite), (13, C_flush), (14, C_rflush), (15, C_fuse), (16, C_rfused), (17, C_crash), (18, C_rcrash), (19, C_read), (20, C_rread)]
theorem SpR_ok : SpecsOk Try.prog SpR := .cons cwrite_ok (.cons crwrite_ok (.cons cflush_ok (.cons crflush_ok (.cons cfuse_ok (.cons crfused_ok (.cons ccrash_ok (.cons crcrash_ok (.cons cread_ok (.cons crread_ok (.nil _))))))))))
def ru_fr (_m _k : Nat) (l : List D) : (Int × List D × List D × List D × List D × List D × Int × Int × Bool × Bool) → Frame' := fun ⟨i, _, _, _, _, _, _, _, _, _⟩ => mkF 94 [(0, dP), (2, .dat (.slc s36 l)), (4, .ptr s32 2 0 []), (6, .ptr s32 3 0 []), (7, .dat (.int .i64 i))]
def ru_st (m k : Nat) (_l : List D) : (Int × List D × List D × List D × List D × List D × Int × Int × Bool × Bool) → Store := fun ⟨_, ws, sf, nw, sa, wa, f, g, u, v⟩ => [dB m k ws f u, sB sf, xB nw sa wa g v, zB]
def ru_step (m k : Nat) (l : List D) : (Int × List D × List D × List D × List D × List D × Int × Int × Bool × Bool) → T ((Int × List D × List D × List D × List D × List D × Int × Int × Bool × Bool) ⊕ LOut) := fun ⟨i, ws, sf, nw, sa, wa, f, g, u, v⟩ =>
  .chk (!decide (i < (↑(List.length l) : Int)) || (!decide (i < 40) || decide (0 ≤ i) && (decide (Int.toNat i < List.length l) && (okE (Ek.agg [Ek.int IntKind.i64, Ek.int IntKind.i64, Ek.slc Sh.one]) (nthD l (Int.toNat i)) && bif D.getI (nthD (D.getL (nthD l (Int.toNat i))) 0) == 0 then write_pre k ws (D.getL (nthD (D.getL (nthD l (Int.toNat i))) 2)) (D.getI (nthD (D.getL (nthD l (Int.toNat i))) 1)) u && rwrite_pre nw wa (D.getL (nthD (D.getL (nthD l (Int.toNat i))) 2)) (D.getI (nthD (D.getL (nthD l (Int.toNat i))) 1)) v else bif D.getI (nthD (D.getL (nthD l (Int.toNat i))) 0) == 1 then able_v0 k 0 u != 0 || (burns_v0 f || flush_pre m k ws sf) else D.getI (nthD (D.getL (nthD l (Int.toNat i))) 0) == 2 || (!D.getI (nthD (D.getL (nthD l (Int.toNat i))) 0) == 3 || bif made_v0 k then crash_pre m k ws sf (D.getL (nthD (D.getL (nthD l (Int.toNat i))) 2)) && rcrash_pre sa wa (D.getL (nthD (D.getL (nthD l (Int.toNat i))) 2)) else rcrash_pre sa wa (D.getL (nthD (D.getL (nthD l (Int.toNat i))) 2))))))) (
   .br (!decide (i < (↑(List.length l) : Int)) || !decide (i < 40)) (.leaf (.inr ((some 0), mkF 94 [(4, AV.ptr (s32) 2 0 []), (6, AV.ptr (s32) 3 0 [])], [{ sh := s61, dyn := false, frz := false, v := AV.agg [AV.sref (Sh.arr Sh.one 128) 1 m [] 0 k, .dat (.slc (s67) ws), .dat (.int .i64 f), .dat (.bool u)] }, { sh := Sh.arr (Sh.arr Sh.one 128) 0, dyn := true, frz := false, v := .dat (.arr (Sh.arr Sh.one 128) sf) }, { sh := s32, dyn := false, frz := false, v := .dat (.agg [D.slc Sh.one nw, D.slc Sh.one sa, D.slc (Sh.agg [Sh.one, Sh.one]) wa, D.int .i64 g, D.bool v]) }, { sh := s32, dyn := false, frz := false, v := AV.agg [AV.fslc Sh.one [], AV.fslc Sh.one [], AV.fslc (Sh.agg [Sh.one, Sh.one]) [], .dat (.int .i64 0), .dat (.bool false)] }]))) (.leaf (.inl ((IntKind.wrap IntKind.i64 (i + 1)), (bif D.getI (nthD (D.getL (nthD l (Int.toNat i))) 0) == 0 then write_v1 k ws (D.getL (nthD (D.getL (nthD l (Int.toNat i))) 2)) (D.getI (nthD (D.getL (nthD l (Int.toNat i))) 1)) u else bif D.getI (nthD (D.getL (nthD l (Int.toNat i))) 0) == 1 then bif able_v0 k 0 u != 0 then ws else bif burns_v0 f then ws else [] else bif D.getI (nthD (D.getL (nthD l (Int.toNat i))) 0) == 2 then ws else bif D.getI (nthD (D.getL (nthD l (Int.toNat i))) 0) == 3 then bif made_v0 k then [] else ws else ws), (bif D.getI (nthD (D.getL (nthD l (Int.toNat i))) 0) == 0 then sf else bif D.getI (nthD (D.getL (nthD l (Int.toNat i))) 0) == 1 then bif able_v0 k 0 u != 0 then sf else bif burns_v0 f then sf else List.foldl setW sf ws else bif D.getI (nthD (D.getL (nthD l (Int.toNat i))) 0) == 2 then sf else bif D.getI (nthD (D.getL (nthD l (Int.toNat i))) 0) == 3 then bif made_v0 k then crash_v0 ws sf (D.getL (nthD (D.getL (nthD l (Int.toNat i))) 2)) else sf else sf), (bif D.getI (nthD (D.getL (nthD l (Int.toNat i))) 0) == 0 then rwrite_v0 nw (D.getL (nthD (D.getL (nthD l (Int.toNat i))) 2)) (D.getI (nthD (D.getL (nthD l (Int.toNat i))) 1)) v else bif D.getI (nthD (D.getL (nthD l (Int.toNat i))) 0) == 1 then nw else bif D.getI (nthD (D.getL (nthD l (Int.toNat i))) 0) == 2 then nw else bif D.getI (nthD (D.getL (nthD l (Int.toNat i))) 0) == 3 then rcTo (D.getL (nthD (D.getL (nthD l (Int.toNat i))) 2)) wa sa (List.length wa) else nw), (bif D.getI (nthD (D.getL (nthD l (Int.toNat i))) 0) == 0 then sa else bif D.getI (nthD (D.getL (nthD l (Int.toNat i))) 0) == 1 then rflush_v0 nw sa g v else bif D.getI (nthD (D.getL (nthD l (Int.toNat i))) 0) == 2 then sa else bif D.getI (nthD (D.getL (nthD l (Int.toNat i))) 0) == 3 then rcTo (D.getL (nthD (D.getL (nthD l (Int.toNat i))) 2)) wa sa (List.length wa) else sa), (bif D.getI (nthD (D.getL (nthD l (Int.toNat i))) 0) == 0 then rwrite_v1 nw wa (D.getL (nthD (D.getL (nthD l (Int.toNat i))) 2)) (D.getI (nthD (D.getL (nthD l (Int.toNat i))) 1)) v else bif D.getI (nthD (D.getL (nthD l (Int.toNat i))) 0) == 1 then rflush_v1 wa g v else bif D.getI (nthD (D.getL (nthD l (Int.toNat i))) 0) == 2 then wa else bif D.getI (nthD (D.getL (nthD l (Int.toNat i))) 0) == 3 then [] else wa), (bif D.getI (nthD (D.getL (nthD l (Int.toNat i))) 0) == 0 then write_v2 k (D.getL (nthD (D.getL (nthD l (Int.toNat i))) 2)) f (D.getI (nthD (D.getL (nthD l (Int.toNat i))) 1)) u else bif D.getI (nthD (D.getL (nthD l (Int.toNat i))) 0) == 1 then bif able_v0 k 0 u != 0 then f else burns_v1 f else bif D.getI (nthD (D.getL (nthD l (Int.toNat i))) 0) == 2 then fuse_v0 k f (D.getI (nthD (D.getL (nthD l (Int.toNat i))) 1)) else bif D.getI (nthD (D.getL (nthD l (Int.toNat i))) 0) == 3 then bif made_v0 k then (-1 : Int) else f else f), (bif D.getI (nthD (D.getL (nthD l (Int.toNat i))) 0) == 0 then rwrite_v2 nw (D.getL (nthD (D.getL (nthD l (Int.toNat i))) 2)) g (D.getI (nthD (D.getL (nthD l (Int.toNat i))) 1)) v else bif D.getI (nthD (D.getL (nthD l (Int.toNat i))) 0) == 1 then rflush_v2 g v else bif D.getI (nthD (D.getL (nthD l (Int.toNat i))) 0) == 2 then rfused_v0 (D.getI (nthD (D.getL (nthD l (Int.toNat i))) 1)) else bif D.getI (nthD (D.getL (nthD l (Int.toNat i))) 0) == 3 then (-1 : Int) else g), (bif D.getI (nthD (D.getL (nthD l (Int.toNat i))) 0) == 0 then write_v3 k (D.getL (nthD (D.getL (nthD l (Int.toNat i))) 2)) f (D.getI (nthD (D.getL (nthD l (Int.toNat i))) 1)) u else bif D.getI (nthD (D.getL (nthD l (Int.toNat i))) 0) == 1 then bif able_v0 k 0 u != 0 then u else burns_v2 f u else bif D.getI (nthD (D.getL (nthD l (Int.toNat i))) 0) == 2 then u else bif D.getI (nthD (D.getL (nthD l (Int.toNat i))) 0) == 3 then !made_v0 k && u else u), (bif D.getI (nthD (D.getL (nthD l (Int.toNat i))) 0) == 0 then rwrite_v3 nw (D.getL (nthD (D.getL (nthD l (Int.toNat i))) 2)) g (D.getI (nthD (D.getL (nthD l (Int.toNat i))) 1)) v else bif D.getI (nthD (D.getL (nthD l (Int.toNat i))) 0) == 1 then rflush_v3 g v else bif D.getI (nthD (D.getL (nthD l (Int.toNat i))) 0) == 2 then v else !D.getI (nthD (D.getL (nthD l (Int.toNat i))) 0) == 3 && v)))))
theorem ru_round (lp : Loops) (m k : Nat) (l : List D) (i : Int) (ws sf nw sa wa : List D) (f g : Int) (u v : Bool) (K : Kt) : oneRound (envOf tab SpR [] lp [(3, 0, [.frzAt 0 [1]])]) Try.f22 0 (4) (mkF 94 [(0, dP), (2, .dat (.slc s36 l)), (4, .ptr s32 2 0 []), (6, .ptr s32 3 0 []), (7, .dat (.int .i64 i))]) ([dB m k ws f u, sB sf, xB nw sa wa g v, zB]) K =
  (bif decide (i < (↑(List.length l) : Int)) then
   (bif decide (i < 40) then
    (bif decide (0 ≤ i) then
     (bif decide (Int.toNat i < List.length l) then
      (bif okE (Ek.agg [Ek.int IntKind.i64, Ek.int IntKind.i64, Ek.slc Sh.one]) (nthD l (Int.toNat i)) then
       (bif D.getI (nthD (D.getL (nthD l (Int.toNat i))) 0) == 0 then
        (bif decide (0 ≤ i) then
         (bif decide (Int.toNat i < List.length l) then
          (bif okE (Ek.agg [Ek.int IntKind.i64, Ek.int IntKind.i64, Ek.slc Sh.one]) (nthD l (Int.toNat i)) then
           (bif decide (0 ≤ i) then
            (bif decide (Int.toNat i < List.length l) then
             (bif okE (Ek.agg [Ek.int IntKind.i64, Ek.int IntKind.i64, Ek.slc Sh.one]) (nthD l (Int.toNat i)) then
              (bif write_pre k ws (D.getL (nthD (D.getL (nthD l (Int.toNat i))) 2)) (D.getI (nthD (D.getL (nthD l (Int.toNat i))) 1)) u then
               (bif decide (0 ≤ i) then
                (bif decide (Int.toNat i < List.length l) then
                 (bif okE (Ek.agg [Ek.int IntKind.i64, Ek.int IntKind.i64, Ek.slc Sh.one]) (nthD l (Int.toNat i)) then
                  (bif decide (0 ≤ i) then
                   (bif decide (Int.toNat i < List.length l) then
                    (bif okE (Ek.agg [Ek.int IntKind.i64, Ek.int IntKind.i64, Ek.slc Sh.one]) (nthD l (Int.toNat i)) then
                     (bif rwrite_pre nw wa (D.getL (nthD (D.getL (nthD l (Int.toNat i))) 2)) (D.getI (nthD (D.getL (nthD l (Int.toNat i))) 1)) v then K (Exit.normal) (mkF 94 [(0, AV.ptr (s61) 0 0 []), (2, .dat (.slc (s36) l)), (4, AV.ptr (s32) 2 0 []), (6, AV.ptr (s32) 3 0 []), (7, .dat (.int .i64 (IntKind.wrap IntKind.i64 (i + 1)))), (16, .dat (.int .i64 i)), (17, .dat (.int .i64 (IntKind.wrap IntKind.i64 (i + 1))))]) ([{ sh := s61, dyn := false, frz := false, v := AV.agg [AV.sref (Sh.arr Sh.one 128) 1 m [] 0 k, .dat (.slc (s67) (write_v1 k ws (D.getL (nthD (D.getL (nthD l (Int.toNat i))) 2)) (D.getI (nthD (D.getL (nthD l (Int.toNat i))) 1)) u)), .dat (.int .i64 (write_v2 k (D.getL (nthD (D.getL (nthD l (Int.toNat i))) 2)) f (D.getI (nthD (D.getL (nthD l (Int.toNat i))) 1)) u)), .dat (.bool (write_v3 k (D.getL (nthD (D.getL (nthD l (Int.toNat i))) 2)) f (D.getI (nthD (D.getL (nthD l (Int.toNat i))) 1)) u))] }, { sh := Sh.arr (Sh.arr Sh.one 128) 0, dyn := true, frz := false, v := .dat (.arr (Sh.arr Sh.one 128) sf) }, { sh := s32, dyn := false, frz := false, v := .dat (.agg [D.slc Sh.one (rwrite_v0 nw (D.getL (nthD (D.getL (nthD l (Int.toNat i))) 2)) (D.getI (nthD (D.getL (nthD l (Int.toNat i))) 1)) v), D.slc Sh.one sa, D.slc (Sh.agg [Sh.one, Sh.one]) (rwrite_v1 nw wa (D.getL (nthD (D.getL (nthD l (Int.toNat i))) 2)) (D.getI (nthD (D.getL (nthD l (Int.toNat i))) 1)) v), D.int .i64 (rwrite_v2 nw (D.getL (nthD (D.getL (nthD l (Int.toNat i))) 2)) g (D.getI (nthD (D.getL (nthD l (Int.toNat i))) 1)) v), D.bool (rwrite_v3 nw (D.getL (nthD (D.getL (nthD l (Int.toNat i))) 2)) g (D.getI (nthD (D.getL (nthD l (Int.toNat i))) 1)) v)]) }, { sh := s32, dyn := false, frz := false, v := AV.agg [AV.fslc Sh.one [], AV.fslc Sh.one [], AV.fslc (Sh.agg [Sh.one, Sh.one]) [], .dat (.int .i64 0), .dat (.bool false)] }]) else none) else none) else none) else none) else none) else none) else none) else none) else none) else none) else none) else none) else none) else none) else
        (bif D.getI (nthD (D.getL (nthD l (Int.toNat i))) 0) == 1 then
         (bif able_v0 k 0 u != 0 then K (Exit.normal) (mkF 94 [(0, AV.ptr (s61) 0 0 []), (2, .dat (.slc (s36) l)), (4, AV.ptr (s32) 2 0 []), (6, AV.ptr (s32) 3 0 []), (7, .dat (.int .i64 (IntKind.wrap IntKind.i64 (i + 1)))), (16, .dat (.int .i64 i)), (17, .dat (.int .i64 (IntKind.wrap IntKind.i64 (i + 1))))]) ([{ sh := s61, dyn := false, frz := false, v := AV.agg [AV.sref (Sh.arr Sh.one 128) 1 m [] 0 k, .dat (.slc (s67) ws), .dat (.int .i64 f), .dat (.bool u)] }, { sh := Sh.arr (Sh.arr Sh.one 128) 0, dyn := true, frz := false, v := .dat (.arr (Sh.arr Sh.one 128) sf) }, { sh := s32, dyn := false, frz := false, v := .dat (.agg [D.slc Sh.one nw, D.slc Sh.one (rflush_v0 nw sa g v), D.slc (Sh.agg [Sh.one, Sh.one]) (rflush_v1 wa g v), D.int .i64 (rflush_v2 g v), D.bool (rflush_v3 g v)]) }, { sh := s32, dyn := false, frz := false, v := AV.agg [AV.fslc Sh.one [], AV.fslc Sh.one [], AV.fslc (Sh.agg [Sh.one, Sh.one]) [], .dat (.int .i64 0), .dat (.bool false)] }]) else
          (bif burns_v0 f then K (Exit.normal) (mkF 94 [(0, AV.ptr (s61) 0 0 []), (2, .dat (.slc (s36) l)), (4, AV.ptr (s32) 2 0 []), (6, AV.ptr (s32) 3 0 []), (7, .dat (.int .i64 (IntKind.wrap IntKind.i64 (i + 1)))), (16, .dat (.int .i64 i)), (17, .dat (.int .i64 (IntKind.wrap IntKind.i64 (i + 1))))]) ([{ sh := s61, dyn := false, frz := false, v := AV.agg [AV.sref (Sh.arr Sh.one 128) 1 m [] 0 k, .dat (.slc (s67) ws), .dat (.int .i64 (burns_v1 f)), .dat (.bool (burns_v2 f u))] }, { sh := Sh.arr (Sh.arr Sh.one 128) 0, dyn := true, frz := false, v := .dat (.arr (Sh.arr Sh.one 128) sf) }, { sh := s32, dyn := false, frz := false, v := .dat (.agg [D.slc Sh.one nw, D.slc Sh.one (rflush_v0 nw sa g v), D.slc (Sh.agg [Sh.one, Sh.one]) (rflush_v1 wa g v), D.int .i64 (rflush_v2 g v), D.bool (rflush_v3 g v)]) }, { sh := s32, dyn := false, frz := false, v := AV.agg [AV.fslc Sh.one [], AV.fslc Sh.one [], AV.fslc (Sh.agg [Sh.one, Sh.one]) [], .dat (.int .i64 0), .dat (.bool false)] }]) else
           (bif flush_pre m k ws sf then K (Exit.normal) (mkF 94 [(0, AV.ptr (s61) 0 0 []), (2, .dat (.slc (s36) l)), (4, AV.ptr (s32) 2 0 []), (6, AV.ptr (s32) 3 0 []), (7, .dat (.int .i64 (IntKind.wrap IntKind.i64 (i + 1)))), (16, .dat (.int .i64 i)), (17, .dat (.int .i64 (IntKind.wrap IntKind.i64 (i + 1))))]) ([{ sh := s61, dyn := false, frz := false, v := AV.agg [AV.sref (Sh.arr Sh.one 128) 1 m [] 0 k, .dat (.slc (s67) []), .dat (.int .i64 (burns_v1 f)), .dat (.bool (burns_v2 f u))] }, { sh := Sh.arr (Sh.arr Sh.one 128) 0, dyn := true, frz := false, v := .dat (.arr (Sh.arr Sh.one 128) (List.foldl setW sf ws)) }, { sh := s32, dyn := false, frz := false, v := .dat (.agg [D.slc Sh.one nw, D.slc Sh.one (rflush_v0 nw sa g v), D.slc (Sh.agg [Sh.one, Sh.one]) (rflush_v1 wa g v), D.int .i64 (rflush_v2 g v), D.bool (rflush_v3 g v)]) }, { sh := s32, dyn := false, frz := false, v := AV.agg [AV.fslc Sh.one [], AV.fslc Sh.one [], AV.fslc (Sh.agg [Sh.one, Sh.one]) [], .dat (.int .i64 0), .dat (.bool false)] }]) else none))) else
         (bif D.getI (nthD (D.getL (nthD l (Int.toNat i))) 0) == 2 then
          (bif decide (0 ≤ i) then
           (bif decide (Int.toNat i < List.length l) then
            (bif okE (Ek.agg [Ek.int IntKind.i64, Ek.int IntKind.i64, Ek.slc Sh.one]) (nthD l (Int.toNat i)) then
             (bif decide (0 ≤ i) then
              (bif decide (Int.toNat i < List.length l) then
               (bif okE (Ek.agg [Ek.int IntKind.i64, Ek.int IntKind.i64, Ek.slc Sh.one]) (nthD l (Int.toNat i)) then K (Exit.normal) (mkF 94 [(0, AV.ptr (s61) 0 0 []), (2, .dat (.slc (s36) l)), (4, AV.ptr (s32) 2 0 []), (6, AV.ptr (s32) 3 0 []), (7, .dat (.int .i64 (IntKind.wrap IntKind.i64 (i + 1)))), (16, .dat (.int .i64 i)), (17, .dat (.int .i64 (IntKind.wrap IntKind.i64 (i + 1))))]) ([{ sh := s61, dyn := false, frz := false, v := AV.agg [AV.sref (Sh.arr Sh.one 128) 1 m [] 0 k, .dat (.slc (s67) ws), .dat (.int .i64 (fuse_v0 k f (D.getI (nthD (D.getL (nthD l (Int.toNat i))) 1)))), .dat (.bool u)] }, { sh := Sh.arr (Sh.arr Sh.one 128) 0, dyn := true, frz := false, v := .dat (.arr (Sh.arr Sh.one 128) sf) }, { sh := s32, dyn := false, frz := false, v := .dat (.agg [D.slc Sh.one nw, D.slc Sh.one sa, D.slc (Sh.agg [Sh.one, Sh.one]) wa, D.int .i64 (rfused_v0 (D.getI (nthD (D.getL (nthD l (Int.toNat i))) 1))), D.bool v]) }, { sh := s32, dyn := false, frz := false, v := AV.agg [AV.fslc Sh.one [], AV.fslc Sh.one [], AV.fslc (Sh.agg [Sh.one, Sh.one]) [], .dat (.int .i64 0), .dat (.bool false)] }]) else none) else none) else none) else none) else none) else none) else
          (bif D.getI (nthD (D.getL (nthD l (Int.toNat i))) 0) == 3 then
           (bif decide (0 ≤ i) then
            (bif decide (Int.toNat i < List.length l) then
             (bif okE (Ek.agg [Ek.int IntKind.i64, Ek.int IntKind.i64, Ek.slc Sh.one]) (nthD l (Int.toNat i)) then
              (bif made_v0 k then
               (bif crash_pre m k ws sf (D.getL (nthD (D.getL (nthD l (Int.toNat i))) 2)) then
                (bif decide (0 ≤ i) then
                 (bif decide (Int.toNat i < List.length l) then
                  (bif okE (Ek.agg [Ek.int IntKind.i64, Ek.int IntKind.i64, Ek.slc Sh.one]) (nthD l (Int.toNat i)) then
                   (bif rcrash_pre sa wa (D.getL (nthD (D.getL (nthD l (Int.toNat i))) 2)) then K (Exit.normal) (mkF 94 [(0, AV.ptr (s61) 0 0 []), (2, .dat (.slc (s36) l)), (4, AV.ptr (s32) 2 0 []), (6, AV.ptr (s32) 3 0 []), (7, .dat (.int .i64 (IntKind.wrap IntKind.i64 (i + 1)))), (16, .dat (.int .i64 i)), (17, .dat (.int .i64 (IntKind.wrap IntKind.i64 (i + 1))))]) ([{ sh := s61, dyn := false, frz := false, v := AV.agg [AV.sref (Sh.arr Sh.one 128) 1 m [] 0 k, .dat (.slc (s67) []), .dat (.int .i64 (-1 : Int)), .dat (.bool false)] }, { sh := Sh.arr (Sh.arr Sh.one 128) 0, dyn := true, frz := false, v := .dat (.arr (Sh.arr Sh.one 128) (crash_v0 ws sf (D.getL (nthD (D.getL (nthD l (Int.toNat i))) 2)))) }, { sh := s32, dyn := false, frz := false, v := .dat (.agg [D.slc Sh.one (rcTo (D.getL (nthD (D.getL (nthD l (Int.toNat i))) 2)) wa sa (List.length wa)), D.slc Sh.one (rcTo (D.getL (nthD (D.getL (nthD l (Int.toNat i))) 2)) wa sa (List.length wa)), D.slc (Sh.agg [Sh.one, Sh.one]) [], D.int .i64 (-1 : Int), D.bool false]) }, { sh := s32, dyn := false, frz := false, v := AV.agg [AV.fslc Sh.one [], AV.fslc Sh.one [], AV.fslc (Sh.agg [Sh.one, Sh.one]) [], .dat (.int .i64 0), .dat (.bool false)] }]) else none) else none) else none) else none) else none) else
               (bif decide (0 ≤ i) then
                (bif decide (Int.toNat i < List.length l) then
                 (bif okE (Ek.agg [Ek.int IntKind.i64, Ek.int IntKind.i64, Ek.slc Sh.one]) (nthD l (Int.toNat i)) then
                  (bif rcrash_pre sa wa (D.getL (nthD (D.getL (nthD l (Int.toNat i))) 2)) then K (Exit.normal) (mkF 94 [(0, AV.ptr (s61) 0 0 []), (2, .dat (.slc (s36) l)), (4, AV.ptr (s32) 2 0 []), (6, AV.ptr (s32) 3 0 []), (7, .dat (.int .i64 (IntKind.wrap IntKind.i64 (i + 1)))), (16, .dat (.int .i64 i)), (17, .dat (.int .i64 (IntKind.wrap IntKind.i64 (i + 1))))]) ([{ sh := s61, dyn := false, frz := false, v := AV.agg [AV.sref (Sh.arr Sh.one 128) 1 m [] 0 k, .dat (.slc (s67) ws), .dat (.int .i64 f), .dat (.bool u)] }, { sh := Sh.arr (Sh.arr Sh.one 128) 0, dyn := true, frz := false, v := .dat (.arr (Sh.arr Sh.one 128) sf) }, { sh := s32, dyn := false, frz := false, v := .dat (.agg [D.slc Sh.one (rcTo (D.getL (nthD (D.getL (nthD l (Int.toNat i))) 2)) wa sa (List.length wa)), D.slc Sh.one (rcTo (D.getL (nthD (D.getL (nthD l (Int.toNat i))) 2)) wa sa (List.length wa)), D.slc (Sh.agg [Sh.one, Sh.one]) [], D.int .i64 (-1 : Int), D.bool false]) }, { sh := s32, dyn := false, frz := false, v := AV.agg [AV.fslc Sh.one [], AV.fslc Sh.one [], AV.fslc (Sh.agg [Sh.one, Sh.one]) [], .dat (.int .i64 0), .dat (.bool false)] }]) else none) else none) else none) else none)) else none) else none) else none) else K (Exit.normal) (mkF 94 [(0, AV.ptr (s61) 0 0 []), (2, .dat (.slc (s36) l)), (4, AV.ptr (s32) 2 0 []), (6, AV.ptr (s32) 3 0 []), (7, .dat (.int .i64 (IntKind.wrap IntKind.i64 (i + 1)))), (16, .dat (.int .i64 i)), (17, .dat (.int .i64 (IntKind.wrap IntKind.i64 (i + 1))))]) ([{ sh := s61, dyn := false, frz := false, v := AV.agg [AV.sref (Sh.arr Sh.one 128) 1 m [] 0 k, .dat (.slc (s67) ws), .dat (.int .i64 f), .dat (.bool u)] }, { sh := Sh.arr (Sh.arr Sh.one 128) 0, dyn := true, frz := false, v := .dat (.arr (Sh.arr Sh.one 128) sf) }, { sh := s32, dyn := false, frz := false, v := .dat (.agg [D.slc Sh.one nw, D.slc Sh.one sa, D.slc (Sh.agg [Sh.one, Sh.one]) wa, D.int .i64 g, D.bool v]) }, { sh := s32, dyn := false, frz := false, v := AV.agg [AV.fslc Sh.one [], AV.fslc Sh.one [], AV.fslc (Sh.agg [Sh.one, Sh.one]) [], .dat (.int .i64 0), .dat (.bool false)] }]))))) else none) else none) else none) else K (Exit.exit 0) (mkF 94 [(4, AV.ptr (s32) 2 0 []), (6, AV.ptr (s32) 3 0 [])]) ([{ sh := s61, dyn := false, frz := false, v := AV.agg [AV.sref (Sh.arr Sh.one 128) 1 m [] 0 k, .dat (.slc (s67) ws), .dat (.int .i64 f), .dat (.bool u)] }, { sh := Sh.arr (Sh.arr Sh.one 128) 0, dyn := true, frz := false, v := .dat (.arr (Sh.arr Sh.one 128) sf) }, { sh := s32, dyn := false, frz := false, v := .dat (.agg [D.slc Sh.one nw, D.slc Sh.one sa, D.slc (Sh.agg [Sh.one, Sh.one]) wa, D.int .i64 g, D.bool v]) }, { sh := s32, dyn := false, frz := false, v := AV.agg [AV.fslc Sh.one [], AV.fslc Sh.one [], AV.fslc (Sh.agg [Sh.one, Sh.one]) [], .dat (.int .i64 0), .dat (.bool false)] }])) else K (Exit.exit 0) (mkF 94 [(4, AV.ptr (s32) 2 0 []), (6, AV.ptr (s32) 3 0 [])]) ([{ sh := s61, dyn := false, frz := false, v := AV.agg [AV.sref (Sh.arr Sh.one 128) 1 m [] 0 k, .dat (.slc (s67) ws), .dat (.int .i64 f), .dat (.bool u)] }, { sh := Sh.arr (Sh.arr Sh.one 128) 0, dyn := true, frz := false, v := .dat (.arr (Sh.arr Sh.one 128) sf) }, { sh := s32, dyn := false, frz := false, v := .dat (.agg [D.slc Sh.one nw, D.slc Sh.one sa, D.slc (Sh.agg [Sh.one, Sh.one]) wa, D.int .i64 g, D.bool v]) }, { sh := s32, dyn := false, frz := false, v := AV.agg [AV.fslc Sh.one [], AV.fslc Sh.one [], AV.fslc (Sh.agg [Sh.one, Sh.one]) [], .dat (.int .i64 0), .dat (.bool false)] }])) := by kernel_rfl
theorem ru_hr (lp : Loops) (m k : Nat) (l : List D) : ∀ (sA : (Int × List D × List D × List D × List D × List D × Int × Int × Bool × Bool)) (K : Kt) (N : (Int × List D × List D × List D × List D × List D × Int × Int × Bool × Bool) → Option Res), (∀ sB fr' σ', cleanF (liveAt Try.f22 0) 0 fr' = ru_fr m k l sB → trim (4) (ru_fr m k l sB) σ' = ru_st m k l sB → K .normal fr' σ' = N sB) →
    oneRound (envOf tab SpR [] lp [(3, 0, [.frzAt 0 [1]])]) Try.f22 0 (4) (ru_fr m k l sA) (ru_st m k l sA) K = (ru_step m k l sA).k (LK K N) := by
  intro sA K N hN
  obtain ⟨i, ws, sf, nw, sa, wa, f, g, u, v⟩ := sA
  refine (ru_round lp m k l i ws sf nw sa wa f g u v K).trans ?_
  show _ = T.k ((
  .chk (!decide (i < (↑(List.length l) : Int)) || (!decide (i < 40) || decide (0 ≤ i) && (decide (Int.toNat i < List.length l) && (okE (Ek.agg [Ek.int IntKind.i64, Ek.int IntKind.i64, Ek.slc Sh.one]) (nthD l (Int.toNat i)) && bif D.getI (nthD (D.getL (nthD l (Int.toNat i))) 0) == 0 then write_pre k ws (D.getL (nthD (D.getL (nthD l (Int.toNat i))) 2)) (D.getI (nthD (D.getL (nthD l (Int.toNat i))) 1)) u && rwrite_pre nw wa (D.getL (nthD (D.getL (nthD l (Int.toNat i))) 2)) (D.getI (nthD (D.getL (nthD l (Int.toNat i))) 1)) v else bif D.getI (nthD (D.getL (nthD l (Int.toNat i))) 0) == 1 then able_v0 k 0 u != 0 || (burns_v0 f || flush_pre m k ws sf) else D.getI (nthD (D.getL (nthD l (Int.toNat i))) 0) == 2 || (!D.getI (nthD (D.getL (nthD l (Int.toNat i))) 0) == 3 || bif made_v0 k then crash_pre m k ws sf (D.getL (nthD (D.getL (nthD l (Int.toNat i))) 2)) && rcrash_pre sa wa (D.getL (nthD (D.getL (nthD l (Int.toNat i))) 2)) else rcrash_pre sa wa (D.getL (nthD (D.getL (nthD l (Int.toNat i))) 2))))))) (
   .br (!decide (i < (↑(List.length l) : Int)) || !decide (i < 40)) (.leaf (.inr ((some 0), mkF 94 [(4, AV.ptr (s32) 2 0 []), (6, AV.ptr (s32) 3 0 [])], [{ sh := s61, dyn := false, frz := false, v := AV.agg [AV.sref (Sh.arr Sh.one 128) 1 m [] 0 k, .dat (.slc (s67) ws), .dat (.int .i64 f), .dat (.bool u)] }, { sh := Sh.arr (Sh.arr Sh.one 128) 0, dyn := true, frz := false, v := .dat (.arr (Sh.arr Sh.one 128) sf) }, { sh := s32, dyn := false, frz := false, v := .dat (.agg [D.slc Sh.one nw, D.slc Sh.one sa, D.slc (Sh.agg [Sh.one, Sh.one]) wa, D.int .i64 g, D.bool v]) }, { sh := s32, dyn := false, frz := false, v := AV.agg [AV.fslc Sh.one [], AV.fslc Sh.one [], AV.fslc (Sh.agg [Sh.one, Sh.one]) [], .dat (.int .i64 0), .dat (.bool false)] }]))) (.leaf (.inl ((IntKind.wrap IntKind.i64 (i + 1)), (bif D.getI (nthD (D.getL (nthD l (Int.toNat i))) 0) == 0 then write_v1 k ws (D.getL (nthD (D.getL (nthD l (Int.toNat i))) 2)) (D.getI (nthD (D.getL (nthD l (Int.toNat i))) 1)) u else bif D.getI (nthD (D.getL (nthD l (Int.toNat i))) 0) == 1 then bif able_v0 k 0 u != 0 then ws else bif burns_v0 f then ws else [] else bif D.getI (nthD (D.getL (nthD l (Int.toNat i))) 0) == 2 then ws else bif D.getI (nthD (D.getL (nthD l (Int.toNat i))) 0) == 3 then bif made_v0 k then [] else ws else ws), (bif D.getI (nthD (D.getL (nthD l (Int.toNat i))) 0) == 0 then sf else bif D.getI (nthD (D.getL (nthD l (Int.toNat i))) 0) == 1 then bif able_v0 k 0 u != 0 then sf else bif burns_v0 f then sf else List.foldl setW sf ws else bif D.getI (nthD (D.getL (nthD l (Int.toNat i))) 0) == 2 then sf else bif D.getI (nthD (D.getL (nthD l (Int.toNat i))) 0) == 3 then bif made_v0 k then crash_v0 ws sf (D.getL (nthD (D.getL (nthD l (Int.toNat i))) 2)) else sf else sf), (bif D.getI (nthD (D.getL (nthD l (Int.toNat i))) 0) == 0 then rwrite_v0 nw (D.getL (nthD (D.getL (nthD l (Int.toNat i))) 2)) (D.getI (nthD (D.getL (nthD l (Int.toNat i))) 1)) v else bif D.getI (nthD (D.getL (nthD l (Int.toNat i))) 0) == 1 then nw else bif D.getI (nthD (D.getL (nthD l (Int.toNat i))) 0) == 2 then nw else bif D.getI (nthD (D.getL (nthD l (Int.toNat i))) 0) == 3 then rcTo (D.getL (nthD (D.getL (nthD l (Int.toNat i))) 2)) wa sa (List.length wa) else nw), (bif D.getI (nthD (D.getL (nthD l (Int.toNat i))) 0) == 0 then sa else bif D.getI (nthD (D.getL (nthD l (Int.toNat i))) 0) == 1 then rflush_v0 nw sa g v else bif D.getI (nthD (D.getL (nthD l (Int.toNat i))) 0) == 2 then sa else bif D.getI (nthD (D.getL (nthD l (Int.toNat i))) 0) == 3 then rcTo (D.getL (nthD (D.getL (nthD l (Int.toNat i))) 2)) wa sa (List.length wa) else sa), (bif D.getI (nthD (D.getL (nthD l (Int.toNat i))) 0) == 0 then rwrite_v1 nw wa (D.getL (nthD (D.getL (nthD l (Int.toNat i))) 2)) (D.getI (nthD (D.getL (nthD l (Int.toNat i))) 1)) v else bif D.getI (nthD (D.getL (nthD l (Int.toNat i))) 0) == 1 then rflush_v1 wa g v else bif D.getI (nthD (D.getL (nthD l (Int.toNat i))) 0) == 2 then wa else bif D.getI (nthD (D.getL (nthD l (Int.toNat i))) 0) == 3 then [] else wa), (bif D.getI (nthD (D.getL (nthD l (Int.toNat i))) 0) == 0 then write_v2 k (D.getL (nthD (D.getL (nthD l (Int.toNat i))) 2)) f (D.getI (nthD (D.getL (nthD l (Int.toNat i))) 1)) u else bif D.getI (nthD (D.getL (nthD l (Int.toNat i))) 0) == 1 then bif able_v0 k 0 u != 0 then f else burns_v1 f else bif D.getI (nthD (D.getL (nthD l (Int.toNat i))) 0) == 2 then fuse_v0 k f (D.getI (nthD (D.getL (nthD l (Int.toNat i))) 1)) else bif D.getI (nthD (D.getL (nthD l (Int.toNat i))) 0) == 3 then bif made_v0 k then (-1 : Int) else f else f), (bif D.getI (nthD (D.getL (nthD l (Int.toNat i))) 0) == 0 then rwrite_v2 nw (D.getL (nthD (D.getL (nthD l (Int.toNat i))) 2)) g (D.getI (nthD (D.getL (nthD l (Int.toNat i))) 1)) v else bif D.getI (nthD (D.getL (nthD l (Int.toNat i))) 0) == 1 then rflush_v2 g v else bif D.getI (nthD (D.getL (nthD l (Int.toNat i))) 0) == 2 then rfused_v0 (D.getI (nthD (D.getL (nthD l (Int.toNat i))) 1)) else bif D.getI (nthD (D.getL (nthD l (Int.toNat i))) 0) == 3 then (-1 : Int) else g), (bif D.getI (nthD (D.getL (nthD l (Int.toNat i))) 0) == 0 then write_v3 k (D.getL (nthD (D.getL (nthD l (Int.toNat i))) 2)) f (D.getI (nthD (D.getL (nthD l (Int.toNat i))) 1)) u else bif D.getI (nthD (D.getL (nthD l (Int.toNat i))) 0) == 1 then bif able_v0 k 0 u != 0 then u else burns_v2 f u else bif D.getI (nthD (D.getL (nthD l (Int.toNat i))) 0) == 2 then u else bif D.getI (nthD (D.getL (nthD l (Int.toNat i))) 0) == 3 then !made_v0 k && u else u), (bif D.getI (nthD (D.getL (nthD l (Int.toNat i))) 0) == 0 then rwrite_v3 nw (D.getL (nthD (D.getL (nthD l (Int.toNat i))) 2)) g (D.getI (nthD (D.getL (nthD l (Int.toNat i))) 1)) v else bif D.getI (nthD (D.getL (nthD l (Int.toNat i))) 0) == 1 then rflush_v3 g v else bif D.getI (nthD (D.getL (nthD l (Int.toNat i))) 0) == 2 then v else !D.getI (nthD (D.getL (nthD l (Int.toNat i))) 0) == 3 && v)))))) : T ((Int × List D × List D × List D × List D × List D × Int × Int × Bool × Bool) ⊕ LOut)) (LK K N)
  generalize (rwrite_pre nw wa (D.getL (nthD (D.getL (nthD l (Int.toNat i))) 2)) (D.getI (nthD (D.getL (nthD l (Int.toNat i))) 1)) v) = z0
  generalize (write_pre k ws (D.getL (nthD (D.getL (nthD l (Int.toNat i))) 2)) (D.getI (nthD (D.getL (nthD l (Int.toNat i))) 1)) u) = z1
  generalize (D.getI (nthD (D.getL (nthD l (Int.toNat i))) 0) == 1) = z2
  generalize (D.getI (nthD (D.getL (nthD l (Int.toNat i))) 0) == 0) = z3
  generalize (D.getI (nthD (D.getL (nthD l (Int.toNat i))) 0) == 3) = z4
  generalize (D.getI (nthD (D.getL (nthD l (Int.toNat i))) 0) == 2) = z5
  generalize (okE (Ek.agg [Ek.int IntKind.i64, Ek.int IntKind.i64, Ek.slc Sh.one]) (nthD l (Int.toNat i))) = z6
  generalize (decide (i < (↑(List.length l) : Int))) = z7
  generalize (able_v0 k 0 u != 0) = z8
  generalize (decide (i < 40)) = z9
  generalize (crash_pre m k ws sf (D.getL (nthD (D.getL (nthD l (Int.toNat i))) 2))) = z10
  generalize (decide (0 ≤ i)) = z11
  generalize (decide (Int.toNat i < List.length l)) = z12
  generalize (rcrash_pre sa wa (D.getL (nthD (D.getL (nthD l (Int.toNat i))) 2))) = z13
  generalize (flush_pre m k ws sf) = z14
  generalize (burns_v0 f) = z15
  generalize (made_v0 k) = z16
  cases z7 with
  | true =>
   cases z9 with
   | true =>
    cases z11 with
    | true =>
     cases z12 with
     | true =>
      cases z6 with
      | true =>
       cases z3 with
       | true =>
        cases z1 with
        | true =>
         cases z0 with
         | true =>
          exact hN _ _ _ (by kernel_rfl) (by kernel_rfl)
         | false =>
          rfl
        | false =>
         rfl
       | false =>
        cases z2 with
        | true =>
         cases z8 with
         | true =>
          exact hN _ _ _ (by kernel_rfl) (by kernel_rfl)
         | false =>
          cases z15 with
          | true =>
           exact hN _ _ _ (by kernel_rfl) (by kernel_rfl)
          | false =>
           cases z14 with
           | true =>
            exact hN _ _ _ (by kernel_rfl) (by kernel_rfl)
           | false =>
            rfl
        | false =>
         cases z5 with
         | true =>
          exact hN _ _ _ (by kernel_rfl) (by kernel_rfl)
         | false =>
          cases z4 with
          | true =>
           cases z16 with
           | true =>
            cases z10 with
            | true =>
             cases z13 with
             | true =>
              exact hN _ _ _ (by kernel_rfl) (by kernel_rfl)
             | false =>
              rfl
            | false =>
             rfl
           | false =>
            cases z13 with
            | true =>
             exact hN _ _ _ (by kernel_rfl) (by kernel_rfl)
            | false =>
             rfl
          | false =>
           exact hN _ _ _ (by kernel_rfl) (by kernel_rfl)
      | false =>
       rfl
     | false =>
      rfl
    | false =>
     rfl
   | false =>
    rfl
  | false =>
   rfl
theorem ru_enter (m k : Nat) (l : List D) (i : Int) (ws sf nw sa wa : List D) (f g : Int) (u v : Bool) (fr : Frame') (hl : Nat.beq fr.length 94 = true) (g0 : fr.getD 0 .undef = AV.ptr (s61) 0 0 []) (g2 : fr.getD 2 .undef = .dat (.slc (s36) l)) (g4 : fr.getD 4 .undef = AV.ptr (s32) 2 0 []) (g6 : fr.getD 6 .undef = AV.ptr (s32) 3 0 []) (g7 : fr.getD 7 .undef = .dat (.int .i64 i)) : cleanF (liveAt Try.f22 0) 0 fr = ru_fr m k l (i, ws, sf, nw, sa, wa, f, g, u, v) := by
  have e : liveAt Try.f22 0 = [0, 2, 7, 4, 6] := by kernel_rfl
  rw [clean_mk (Nat.eq_of_beq_eq_true hl), e]
  show mkF 94 [(0, fr.getD 0 .undef), (2, fr.getD 2 .undef), (7, fr.getD 7 .undef), (4, fr.getD 4 .undef), (6, fr.getD 6 .undef)] = _
  rw [g0, g2, g7, g4, g6]
  kernel_rfl
end Go.Proofs.Ythhipekbkodjoaa
