/- Seat 17: PostKeeps' rounds. -/
import Derived.Test.YtggellmbhgkckaaDoorG
namespace Go.Proofs.YtggellmbhgkckaaDoor
open Go.AX
set_option maxRecDepth 100000
abbrev SpK : Specs := [(5, C_put), (6, C_alive), (7, C_toss), (8, C_right), (9, C_gett)]
theorem SpK_ok : SpecsOk Tryd.prog SpK := .cons cput_ok (.cons calive_ok (.cons ctoss_ok (.cons cright_ok (.cons cgett_ok (.nil _)))))
abbrev HK : Hints := [(6, 1, [.cut 1]), (6, 0, [.kill 0, .kill 1, .kill 11, .kill 20, .kill 21, .kill 22, .kill 23, .kill 24, .kill 25, .kill 26, .kill 27, .kill 28, .kill 29]), (19, 0, [.kill 2, .kill 3, .kill 46]), (20, 0, [.kill 126, .kill 127, .kill 128, .kill 129, .kill 130, .kill 131, .kill 132, .kill 133]), (21, 0, [.kill 9, .kill 10, .kill 18, .kill 134, .kill 135, .kill 136, .kill 137, .kill 138, .kill 139, .kill 140, .kill 141, .kill 142]), (999999, 32, [.is 32 (aBool true)]), (999999, 36, [.is 36 (aBool true)]), (999999, 39, [.is 39 (aBool false)]), (999999, 44, [.is 44 (aBool false)]), (999999, 112, [.is 112 (aBool false)]), (999999, 119, [.is 119 (aBool false)]), (999999, 123, [.is 123 (aBool true)]), (999999, 143, [.is 143 (aBool true)]), (999999, 146, [.is 146 (aBool true)]), (999999, 151, [.is 151 (aBool true)]), (999999, 155, [.is 155 (aBool true)])]
abbrev boxM (la fm to : Int) (s : ByteArray) : Blk := ⟨s23, false, false, .dat (tM true la fm to s)⟩
def kp_fr (ls sl : List D) (_la _fm _to at_ : Int) (_s : ByteArray) : (Int × List D) → Frame' := fun ⟨i, now⟩ => mkF 157 [(2, .dat (.slc s23 ls)), (3, .dat (.slc .one sl)), (5, .ptr s23 0 0 []), (9, .dat (.slc s23 now)), (10, .dat (.int .i64 at_)), (12, .dat (.int .i64 i))]
def kp_st (_ls _sl : List D) (la fm to _at_ : Int) (s : ByteArray) : (Int × List D) → Store := fun ⟨_, _⟩ => [boxM la fm to s]
def kp_u12 (ls : List D) (i : Int) := D.getL (nthD ls (Int.toNat i))
def kp_u20 (ls : List D) (i : Int) := D.getI (nthD (kp_u12 ls i) 1)
def kp_u21 (ls : List D) (i : Int) := D.getI (nthD (kp_u12 ls i) 2)
def kp_u1 (ls : List D) (i : Int) := D.getI (nthD (kp_u12 ls i) 3)
def kp_u22 (ls : List D) (i : Int) := D.getS (nthD (kp_u12 ls i) 4)
def kp_u2 (sl : List D) (i : Int) := D.getI (nthD sl (Int.toNat i))
def kp_u0 (ls : List D) (i : Int) (now : List D) := put_v0 now (kp_u20 ls i) (kp_u21 ls i) (kp_u1 ls i) (kp_u22 ls i)
def kp_u7 (ls : List D) (sl : List D) (i : Int) (now : List D) := toss_v0 (kp_u0 ls i now) (kp_u2 sl i) (kp_u1 ls i)
def kp_u15 (ls : List D) (sl : List D) (at_ : Int) (i : Int) (now : List D) := nthD (kp_u7 ls sl i now) (Int.toNat at_)
def kp_u3 (ls : List D) (sl : List D) (la : Int) (fm : Int) (to : Int) (at_ : Int) (s : ByteArray) (i : Int) (now : List D) := D.getI (nthD (D.getL (kp_u15 ls sl at_ i now)) 1) == la && (D.getI (nthD (D.getL (kp_u15 ls sl at_ i now)) 2) == fm && (D.getI (nthD (D.getL (kp_u15 ls sl at_ i now)) 3) == to && (decide (Array.toList (ByteArray.data (D.getS (nthD (D.getL (kp_u15 ls sl at_ i now)) 4))) = Array.toList (ByteArray.data s)) && true)))
def kp_u14 (ls : List D) (at_ : Int) (i : Int) (now : List D) := nthD (kp_u0 ls i now) (Int.toNat at_)
def kp_u5 (ls : List D) (la : Int) (fm : Int) (to : Int) (at_ : Int) (s : ByteArray) (i : Int) (now : List D) := D.getI (nthD (D.getL (kp_u14 ls at_ i now)) 1) == la && (D.getI (nthD (D.getL (kp_u14 ls at_ i now)) 2) == fm && (D.getI (nthD (D.getL (kp_u14 ls at_ i now)) 3) == to && (decide (Array.toList (ByteArray.data (D.getS (nthD (D.getL (kp_u14 ls at_ i now)) 4))) = Array.toList (ByteArray.data s)) && true)))
def kp_u9 (ls : List D) (sl : List D) (i : Int) (now : List D) := toss_v0 now (kp_u2 sl i) (kp_u1 ls i)
def kp_u16 (ls : List D) (sl : List D) (at_ : Int) (i : Int) (now : List D) := nthD (kp_u9 ls sl i now) (Int.toNat at_)
def kp_u4 (ls : List D) (sl : List D) (la : Int) (fm : Int) (to : Int) (at_ : Int) (s : ByteArray) (i : Int) (now : List D) := D.getI (nthD (D.getL (kp_u16 ls sl at_ i now)) 1) == la && (D.getI (nthD (D.getL (kp_u16 ls sl at_ i now)) 2) == fm && (D.getI (nthD (D.getL (kp_u16 ls sl at_ i now)) 3) == to && (decide (Array.toList (ByteArray.data (D.getS (nthD (D.getL (kp_u16 ls sl at_ i now)) 4))) = Array.toList (ByteArray.data s)) && true)))
def kp_u17 (at_ : Int) (now : List D) := D.getL (nthD now (Int.toNat at_))
def kp_u6 (la : Int) (fm : Int) (to : Int) (at_ : Int) (s : ByteArray) (now : List D) := D.getI (nthD (kp_u17 at_ now) 1) == la && (D.getI (nthD (kp_u17 at_ now) 2) == fm && (D.getI (nthD (kp_u17 at_ now) 3) == to && (decide (Array.toList (ByteArray.data (D.getS (nthD (kp_u17 at_ now) 4))) = Array.toList (ByteArray.data s)) && true)))
def kp_u13 (i : Int) := IntKind.wrap IntKind.i64 (i + 1)
def kp_step (ls sl : List D) (la fm to at_ : Int) (s : ByteArray) : (Int × List D) → T ((Int × List D) ⊕ LOut) := fun ⟨i, now⟩ =>
  .chk (!decide (i < (↑(List.length ls) : Int)) || (!decide (i < 40) || decide (0 ≤ i) && (decide (Int.toNat i < List.length ls) && (okE (k23) (nthD ls (Int.toNat i)) && (put_pre now (kp_u20 ls i) (kp_u21 ls i) (kp_u1 ls i) (kp_u22 ls i) && bif put_v2 now (kp_u20 ls i) (kp_u21 ls i) (kp_u1 ls i) (kp_u22 ls i) == 0 then decide ((↑(List.length sl) : Int) ≤ i) || decide (Int.toNat i < List.length sl) && (okE (Ek.int IntKind.i64) (nthD sl (Int.toNat i)) && bif (kp_u2 sl i) == at_ then (kp_u1 ls i) == to || toss_pre (kp_u0 ls i now) (kp_u2 sl i) (kp_u1 ls i) && bif toss_v1 (kp_u0 ls i now) (kp_u2 sl i) (kp_u1 ls i) == 0 then !decide ((↑(List.length (kp_u7 ls sl i now)) : Int) ≤ at_) && (decide (0 ≤ at_) && (decide (Int.toNat at_ < List.length (kp_u7 ls sl i now)) && (okE (k23) (kp_u15 ls sl at_ i now) && (D.getB (nthD (D.getL (kp_u15 ls sl at_ i now)) 0) == true && (kp_u3 ls sl la fm to at_ s i now) && (iw_okL (kp_u7 ls sl i now) && right_v0 (kp_u7 ls sl i now)))))) else !decide ((↑(List.length (kp_u0 ls i now)) : Int) ≤ at_) && (decide (0 ≤ at_) && (decide (Int.toNat at_ < List.length (kp_u0 ls i now)) && (okE (k23) (kp_u14 ls at_ i now) && (D.getB (nthD (D.getL (kp_u14 ls at_ i now)) 0) == true && (kp_u5 ls la fm to at_ s i now) && (iw_okL (kp_u0 ls i now) && right_v0 (kp_u0 ls i now)))))) else toss_pre (kp_u0 ls i now) (kp_u2 sl i) (kp_u1 ls i) && bif toss_v1 (kp_u0 ls i now) (kp_u2 sl i) (kp_u1 ls i) == 0 then !decide ((↑(List.length (kp_u7 ls sl i now)) : Int) ≤ at_) && (decide (0 ≤ at_) && (decide (Int.toNat at_ < List.length (kp_u7 ls sl i now)) && (okE (k23) (kp_u15 ls sl at_ i now) && (D.getB (nthD (D.getL (kp_u15 ls sl at_ i now)) 0) == true && (kp_u3 ls sl la fm to at_ s i now) && (iw_okL (kp_u7 ls sl i now) && right_v0 (kp_u7 ls sl i now)))))) else !decide ((↑(List.length (kp_u0 ls i now)) : Int) ≤ at_) && (decide (0 ≤ at_) && (decide (Int.toNat at_ < List.length (kp_u0 ls i now)) && (okE (k23) (kp_u14 ls at_ i now) && (D.getB (nthD (D.getL (kp_u14 ls at_ i now)) 0) == true && (kp_u5 ls la fm to at_ s i now) && (iw_okL (kp_u0 ls i now) && right_v0 (kp_u0 ls i now))))))) else decide ((↑(List.length sl) : Int) ≤ i) || decide (Int.toNat i < List.length sl) && (okE (Ek.int IntKind.i64) (nthD sl (Int.toNat i)) && bif (kp_u2 sl i) == at_ then (kp_u1 ls i) == to || toss_pre now (kp_u2 sl i) (kp_u1 ls i) && bif toss_v1 now (kp_u2 sl i) (kp_u1 ls i) == 0 then !decide ((↑(List.length (kp_u9 ls sl i now)) : Int) ≤ at_) && (decide (0 ≤ at_) && (decide (Int.toNat at_ < List.length (kp_u9 ls sl i now)) && (okE (k23) (kp_u16 ls sl at_ i now) && (D.getB (nthD (D.getL (kp_u16 ls sl at_ i now)) 0) == true && (kp_u4 ls sl la fm to at_ s i now) && (iw_okL (kp_u9 ls sl i now) && right_v0 (kp_u9 ls sl i now)))))) else !decide ((↑(List.length now) : Int) ≤ at_) && (decide (0 ≤ at_) && (decide (Int.toNat at_ < List.length now) && (okE (k23) (nthD now (Int.toNat at_)) && (D.getB (nthD (kp_u17 at_ now) 0) == true && (kp_u6 la fm to at_ s now) && (iw_okL now && right_v0 now))))) else toss_pre now (kp_u2 sl i) (kp_u1 ls i) && bif toss_v1 now (kp_u2 sl i) (kp_u1 ls i) == 0 then !decide ((↑(List.length (kp_u9 ls sl i now)) : Int) ≤ at_) && (decide (0 ≤ at_) && (decide (Int.toNat at_ < List.length (kp_u9 ls sl i now)) && (okE (k23) (kp_u16 ls sl at_ i now) && (D.getB (nthD (D.getL (kp_u16 ls sl at_ i now)) 0) == true && (kp_u4 ls sl la fm to at_ s i now) && (iw_okL (kp_u9 ls sl i now) && right_v0 (kp_u9 ls sl i now)))))) else !decide ((↑(List.length now) : Int) ≤ at_) && (decide (0 ≤ at_) && (decide (Int.toNat at_ < List.length now) && (okE (k23) (nthD now (Int.toNat at_)) && (D.getB (nthD (kp_u17 at_ now) 0) == true && (kp_u6 la fm to at_ s now) && (iw_okL now && right_v0 now))))))))))) (
   .br (!decide (i < (↑(List.length ls) : Int)) || !decide (i < 40)) (.leaf (.inr ((some 0), mkF 157 [(5, AV.ptr (s23) 0 0 []), (9, .dat (.slc (s23) now)), (10, .dat (.int .i64 at_))], [{ sh := s23, dyn := false, frz := false, v := .dat (.agg [D.bool true, D.int .i64 la, D.int .i64 fm, D.int .i64 to, D.str s]) }]))) (.leaf (.inl ((kp_u13 i), (bif put_v2 now (kp_u20 ls i) (kp_u21 ls i) (kp_u1 ls i) (kp_u22 ls i) == 0 then bif decide ((↑(List.length sl) : Int) ≤ i) then (kp_u0 ls i now) else bif (kp_u2 sl i) == at_ then bif (kp_u1 ls i) == to then (kp_u0 ls i now) else bif toss_v1 (kp_u0 ls i now) (kp_u2 sl i) (kp_u1 ls i) == 0 then (kp_u7 ls sl i now) else (kp_u0 ls i now) else bif toss_v1 (kp_u0 ls i now) (kp_u2 sl i) (kp_u1 ls i) == 0 then (kp_u7 ls sl i now) else (kp_u0 ls i now) else bif decide ((↑(List.length sl) : Int) ≤ i) then now else bif (kp_u2 sl i) == at_ then bif (kp_u1 ls i) == to then now else bif toss_v1 now (kp_u2 sl i) (kp_u1 ls i) == 0 then (kp_u9 ls sl i now) else now else bif toss_v1 now (kp_u2 sl i) (kp_u1 ls i) == 0 then (kp_u9 ls sl i now) else now)))))
def kp_u10 (ls : List D) (sl : List D) (at_ : Int) (i : Int) (now : List D) := mkF 157 [(2, .dat (.slc (s23) ls)), (3, .dat (.slc Sh.one sl)), (5, AV.ptr (s23) 0 0 []), (9, .dat (.slc (s23) (kp_u0 ls i now))), (10, .dat (.int .i64 at_)), (12, .dat (.int .i64 (kp_u13 i))), (55, .dat (.int .i64 i)), (56, .dat (.int .i64 (kp_u13 i)))]
def kp_u8 (la : Int) (fm : Int) (to : Int) (s : ByteArray) : Store := [{ sh := s23, dyn := false, frz := false, v := .dat (.agg [D.bool true, D.int .i64 la, D.int .i64 fm, D.int .i64 to, D.str s]) }]
def kp_u18 (ls : List D) (sl : List D) (at_ : Int) (i : Int) (now : List D) := mkF 157 [(2, .dat (.slc (s23) ls)), (3, .dat (.slc Sh.one sl)), (5, AV.ptr (s23) 0 0 []), (9, .dat (.slc (s23) (kp_u7 ls sl i now))), (10, .dat (.int .i64 at_)), (12, .dat (.int .i64 (kp_u13 i))), (55, .dat (.int .i64 i)), (56, .dat (.int .i64 (kp_u13 i)))]
def kp_u11 (ls : List D) (sl : List D) (at_ : Int) (i : Int) (now : List D) := mkF 157 [(2, .dat (.slc (s23) ls)), (3, .dat (.slc Sh.one sl)), (5, AV.ptr (s23) 0 0 []), (9, .dat (.slc (s23) now)), (10, .dat (.int .i64 at_)), (12, .dat (.int .i64 (kp_u13 i))), (55, .dat (.int .i64 i)), (56, .dat (.int .i64 (kp_u13 i)))]
def kp_u19 (ls : List D) (sl : List D) (at_ : Int) (i : Int) (now : List D) := mkF 157 [(2, .dat (.slc (s23) ls)), (3, .dat (.slc Sh.one sl)), (5, AV.ptr (s23) 0 0 []), (9, .dat (.slc (s23) (kp_u9 ls sl i now))), (10, .dat (.int .i64 at_)), (12, .dat (.int .i64 (kp_u13 i))), (55, .dat (.int .i64 i)), (56, .dat (.int .i64 (kp_u13 i)))]
theorem kp_round (lp : Loops) (ls sl : List D) (la fm to at_ : Int) (s : ByteArray) (i : Int) (now : List D) (K : Kt) : oneRound (envOf tab SpK [] lp HK) Tryd.f3 0 (1) (mkF 157 [(2, .dat (.slc s23 ls)), (3, .dat (.slc .one sl)), (5, .ptr s23 0 0 []), (9, .dat (.slc s23 now)), (10, .dat (.int .i64 at_)), (12, .dat (.int .i64 i))]) ([boxM la fm to s]) K =
  (bif decide (i < (↑(List.length ls) : Int)) then
   (bif decide (i < 40) then
    (bif decide (0 ≤ i) then
     (bif decide (Int.toNat i < List.length ls) then
      (bif okE (k23) (nthD ls (Int.toNat i)) then
       (bif put_pre now (kp_u20 ls i) (kp_u21 ls i) (kp_u1 ls i) (kp_u22 ls i) then
        (bif put_v2 now (kp_u20 ls i) (kp_u21 ls i) (kp_u1 ls i) (kp_u22 ls i) == 0 then
         (bif decide (i ≥ (↑(List.length sl) : Int)) then K (Exit.normal) (kp_u10 ls sl at_ i now) (kp_u8 la fm to s) else
          (bif decide (0 ≤ i) then
           (bif decide (Int.toNat i < List.length sl) then
            (bif okE (Ek.int IntKind.i64) (nthD sl (Int.toNat i)) then
             (bif (kp_u2 sl i) == at_ then
              (bif decide (0 ≤ i) then
               (bif decide (Int.toNat i < List.length ls) then
                (bif okE (k23) (nthD ls (Int.toNat i)) then
                 (bif (kp_u1 ls i) == to then K (Exit.normal) (kp_u10 ls sl at_ i now) (kp_u8 la fm to s) else
                  (bif decide (0 ≤ i) then
                   (bif decide (Int.toNat i < List.length sl) then
                    (bif okE (Ek.int IntKind.i64) (nthD sl (Int.toNat i)) then
                     (bif decide (0 ≤ i) then
                      (bif decide (Int.toNat i < List.length ls) then
                       (bif okE (k23) (nthD ls (Int.toNat i)) then
                        (bif toss_pre (kp_u0 ls i now) (kp_u2 sl i) (kp_u1 ls i) then
                         (bif toss_v1 (kp_u0 ls i now) (kp_u2 sl i) (kp_u1 ls i) == 0 then
                          (bif D.eqb (D.bool (decide (at_ ≥ (↑(List.length (kp_u7 ls sl i now)) : Int)))) (D.bool false) then
                           (bif decide (0 ≤ at_) then
                            (bif decide (Int.toNat at_ < List.length (kp_u7 ls sl i now)) then
                             (bif okE (k23) (kp_u15 ls sl at_ i now) then
                              (bif D.eqb (D.bool (true != (D.getB (nthD (D.getL (kp_u15 ls sl at_ i now)) 0) == true && (kp_u3 ls sl la fm to at_ s i now)))) (D.bool false) then
                               (bif iw_okL (kp_u7 ls sl i now) then
                                (bif D.eqb (D.bool (right_v0 (kp_u7 ls sl i now))) (D.bool true) then K (Exit.normal) (kp_u18 ls sl at_ i now) (kp_u8 la fm to s) else none) else none) else none) else none) else none) else none) else none) else
                          (bif D.eqb (D.bool (decide (at_ ≥ (↑(List.length (kp_u0 ls i now)) : Int)))) (D.bool false) then
                           (bif decide (0 ≤ at_) then
                            (bif decide (Int.toNat at_ < List.length (kp_u0 ls i now)) then
                             (bif okE (k23) (kp_u14 ls at_ i now) then
                              (bif D.eqb (D.bool (true != (D.getB (nthD (D.getL (kp_u14 ls at_ i now)) 0) == true && (kp_u5 ls la fm to at_ s i now)))) (D.bool false) then
                               (bif iw_okL (kp_u0 ls i now) then
                                (bif D.eqb (D.bool (right_v0 (kp_u0 ls i now))) (D.bool true) then K (Exit.normal) (kp_u10 ls sl at_ i now) (kp_u8 la fm to s) else none) else none) else none) else none) else none) else none) else none)) else none) else none) else none) else none) else none) else none) else none)) else none) else none) else none) else
              (bif decide (0 ≤ i) then
               (bif decide (Int.toNat i < List.length sl) then
                (bif okE (Ek.int IntKind.i64) (nthD sl (Int.toNat i)) then
                 (bif decide (0 ≤ i) then
                  (bif decide (Int.toNat i < List.length ls) then
                   (bif okE (k23) (nthD ls (Int.toNat i)) then
                    (bif toss_pre (kp_u0 ls i now) (kp_u2 sl i) (kp_u1 ls i) then
                     (bif toss_v1 (kp_u0 ls i now) (kp_u2 sl i) (kp_u1 ls i) == 0 then
                      (bif D.eqb (D.bool (decide (at_ ≥ (↑(List.length (kp_u7 ls sl i now)) : Int)))) (D.bool false) then
                       (bif decide (0 ≤ at_) then
                        (bif decide (Int.toNat at_ < List.length (kp_u7 ls sl i now)) then
                         (bif okE (k23) (kp_u15 ls sl at_ i now) then
                          (bif D.eqb (D.bool (true != (D.getB (nthD (D.getL (kp_u15 ls sl at_ i now)) 0) == true && (kp_u3 ls sl la fm to at_ s i now)))) (D.bool false) then
                           (bif iw_okL (kp_u7 ls sl i now) then
                            (bif D.eqb (D.bool (right_v0 (kp_u7 ls sl i now))) (D.bool true) then K (Exit.normal) (kp_u18 ls sl at_ i now) (kp_u8 la fm to s) else none) else none) else none) else none) else none) else none) else none) else
                      (bif D.eqb (D.bool (decide (at_ ≥ (↑(List.length (kp_u0 ls i now)) : Int)))) (D.bool false) then
                       (bif decide (0 ≤ at_) then
                        (bif decide (Int.toNat at_ < List.length (kp_u0 ls i now)) then
                         (bif okE (k23) (kp_u14 ls at_ i now) then
                          (bif D.eqb (D.bool (true != (D.getB (nthD (D.getL (kp_u14 ls at_ i now)) 0) == true && (kp_u5 ls la fm to at_ s i now)))) (D.bool false) then
                           (bif iw_okL (kp_u0 ls i now) then
                            (bif D.eqb (D.bool (right_v0 (kp_u0 ls i now))) (D.bool true) then K (Exit.normal) (kp_u10 ls sl at_ i now) (kp_u8 la fm to s) else none) else none) else none) else none) else none) else none) else none)) else none) else none) else none) else none) else none) else none) else none)) else none) else none) else none)) else
         (bif decide (i ≥ (↑(List.length sl) : Int)) then K (Exit.normal) (kp_u11 ls sl at_ i now) (kp_u8 la fm to s) else
          (bif decide (0 ≤ i) then
           (bif decide (Int.toNat i < List.length sl) then
            (bif okE (Ek.int IntKind.i64) (nthD sl (Int.toNat i)) then
             (bif (kp_u2 sl i) == at_ then
              (bif decide (0 ≤ i) then
               (bif decide (Int.toNat i < List.length ls) then
                (bif okE (k23) (nthD ls (Int.toNat i)) then
                 (bif (kp_u1 ls i) == to then K (Exit.normal) (kp_u11 ls sl at_ i now) (kp_u8 la fm to s) else
                  (bif decide (0 ≤ i) then
                   (bif decide (Int.toNat i < List.length sl) then
                    (bif okE (Ek.int IntKind.i64) (nthD sl (Int.toNat i)) then
                     (bif decide (0 ≤ i) then
                      (bif decide (Int.toNat i < List.length ls) then
                       (bif okE (k23) (nthD ls (Int.toNat i)) then
                        (bif toss_pre now (kp_u2 sl i) (kp_u1 ls i) then
                         (bif toss_v1 now (kp_u2 sl i) (kp_u1 ls i) == 0 then
                          (bif D.eqb (D.bool (decide (at_ ≥ (↑(List.length (kp_u9 ls sl i now)) : Int)))) (D.bool false) then
                           (bif decide (0 ≤ at_) then
                            (bif decide (Int.toNat at_ < List.length (kp_u9 ls sl i now)) then
                             (bif okE (k23) (kp_u16 ls sl at_ i now) then
                              (bif D.eqb (D.bool (true != (D.getB (nthD (D.getL (kp_u16 ls sl at_ i now)) 0) == true && (kp_u4 ls sl la fm to at_ s i now)))) (D.bool false) then
                               (bif iw_okL (kp_u9 ls sl i now) then
                                (bif D.eqb (D.bool (right_v0 (kp_u9 ls sl i now))) (D.bool true) then K (Exit.normal) (kp_u19 ls sl at_ i now) (kp_u8 la fm to s) else none) else none) else none) else none) else none) else none) else none) else
                          (bif D.eqb (D.bool (decide (at_ ≥ (↑(List.length now) : Int)))) (D.bool false) then
                           (bif decide (0 ≤ at_) then
                            (bif decide (Int.toNat at_ < List.length now) then
                             (bif okE (k23) (nthD now (Int.toNat at_)) then
                              (bif D.eqb (D.bool (true != (D.getB (nthD (kp_u17 at_ now) 0) == true && (kp_u6 la fm to at_ s now)))) (D.bool false) then
                               (bif iw_okL now then
                                (bif D.eqb (D.bool (right_v0 now)) (D.bool true) then K (Exit.normal) (kp_u11 ls sl at_ i now) (kp_u8 la fm to s) else none) else none) else none) else none) else none) else none) else none)) else none) else none) else none) else none) else none) else none) else none)) else none) else none) else none) else
              (bif decide (0 ≤ i) then
               (bif decide (Int.toNat i < List.length sl) then
                (bif okE (Ek.int IntKind.i64) (nthD sl (Int.toNat i)) then
                 (bif decide (0 ≤ i) then
                  (bif decide (Int.toNat i < List.length ls) then
                   (bif okE (k23) (nthD ls (Int.toNat i)) then
                    (bif toss_pre now (kp_u2 sl i) (kp_u1 ls i) then
                     (bif toss_v1 now (kp_u2 sl i) (kp_u1 ls i) == 0 then
                      (bif D.eqb (D.bool (decide (at_ ≥ (↑(List.length (kp_u9 ls sl i now)) : Int)))) (D.bool false) then
                       (bif decide (0 ≤ at_) then
                        (bif decide (Int.toNat at_ < List.length (kp_u9 ls sl i now)) then
                         (bif okE (k23) (kp_u16 ls sl at_ i now) then
                          (bif D.eqb (D.bool (true != (D.getB (nthD (D.getL (kp_u16 ls sl at_ i now)) 0) == true && (kp_u4 ls sl la fm to at_ s i now)))) (D.bool false) then
                           (bif iw_okL (kp_u9 ls sl i now) then
                            (bif D.eqb (D.bool (right_v0 (kp_u9 ls sl i now))) (D.bool true) then K (Exit.normal) (kp_u19 ls sl at_ i now) (kp_u8 la fm to s) else none) else none) else none) else none) else none) else none) else none) else
                      (bif D.eqb (D.bool (decide (at_ ≥ (↑(List.length now) : Int)))) (D.bool false) then
                       (bif decide (0 ≤ at_) then
                        (bif decide (Int.toNat at_ < List.length now) then
                         (bif okE (k23) (nthD now (Int.toNat at_)) then
                          (bif D.eqb (D.bool (true != (D.getB (nthD (kp_u17 at_ now) 0) == true && (kp_u6 la fm to at_ s now)))) (D.bool false) then
                           (bif iw_okL now then
                            (bif D.eqb (D.bool (right_v0 now)) (D.bool true) then K (Exit.normal) (kp_u11 ls sl at_ i now) (kp_u8 la fm to s) else none) else none) else none) else none) else none) else none) else none)) else none) else none) else none) else none) else none) else none) else none)) else none) else none) else none))) else none) else none) else none) else none) else K (Exit.exit 0) (mkF 157 [(5, AV.ptr (s23) 0 0 []), (9, .dat (.slc (s23) now)), (10, .dat (.int .i64 at_))]) (kp_u8 la fm to s)) else K (Exit.exit 0) (mkF 157 [(5, AV.ptr (s23) 0 0 []), (9, .dat (.slc (s23) now)), (10, .dat (.int .i64 at_))]) (kp_u8 la fm to s)) := by kernel_rfl
theorem kp_hr (lp : Loops) (ls sl : List D) (la fm to at_ : Int) (s : ByteArray) : ∀ (sA : (Int × List D)) (K : Kt) (N : (Int × List D) → Option Res), (∀ sB fr' σ', cleanF (liveAt Tryd.f3 0) 0 fr' = kp_fr ls sl la fm to at_ s sB → trim (1) (kp_fr ls sl la fm to at_ s sB) σ' = kp_st ls sl la fm to at_ s sB → K .normal fr' σ' = N sB) →
    oneRound (envOf tab SpK [] lp HK) Tryd.f3 0 (1) (kp_fr ls sl la fm to at_ s sA) (kp_st ls sl la fm to at_ s sA) K = (kp_step ls sl la fm to at_ s sA).k (LK K N) := by
  intro sA K N hN
  obtain ⟨i, now⟩ := sA
  refine (kp_round lp ls sl la fm to at_ s i now K).trans ?_
  show _ = T.k ((
  .chk (!decide (i < (↑(List.length ls) : Int)) || (!decide (i < 40) || decide (0 ≤ i) && (decide (Int.toNat i < List.length ls) && (okE (k23) (nthD ls (Int.toNat i)) && (put_pre now (kp_u20 ls i) (kp_u21 ls i) (kp_u1 ls i) (kp_u22 ls i) && bif put_v2 now (kp_u20 ls i) (kp_u21 ls i) (kp_u1 ls i) (kp_u22 ls i) == 0 then decide ((↑(List.length sl) : Int) ≤ i) || decide (Int.toNat i < List.length sl) && (okE (Ek.int IntKind.i64) (nthD sl (Int.toNat i)) && bif (kp_u2 sl i) == at_ then (kp_u1 ls i) == to || toss_pre (kp_u0 ls i now) (kp_u2 sl i) (kp_u1 ls i) && bif toss_v1 (kp_u0 ls i now) (kp_u2 sl i) (kp_u1 ls i) == 0 then !decide ((↑(List.length (kp_u7 ls sl i now)) : Int) ≤ at_) && (decide (0 ≤ at_) && (decide (Int.toNat at_ < List.length (kp_u7 ls sl i now)) && (okE (k23) (kp_u15 ls sl at_ i now) && (D.getB (nthD (D.getL (kp_u15 ls sl at_ i now)) 0) == true && (kp_u3 ls sl la fm to at_ s i now) && (iw_okL (kp_u7 ls sl i now) && right_v0 (kp_u7 ls sl i now)))))) else !decide ((↑(List.length (kp_u0 ls i now)) : Int) ≤ at_) && (decide (0 ≤ at_) && (decide (Int.toNat at_ < List.length (kp_u0 ls i now)) && (okE (k23) (kp_u14 ls at_ i now) && (D.getB (nthD (D.getL (kp_u14 ls at_ i now)) 0) == true && (kp_u5 ls la fm to at_ s i now) && (iw_okL (kp_u0 ls i now) && right_v0 (kp_u0 ls i now)))))) else toss_pre (kp_u0 ls i now) (kp_u2 sl i) (kp_u1 ls i) && bif toss_v1 (kp_u0 ls i now) (kp_u2 sl i) (kp_u1 ls i) == 0 then !decide ((↑(List.length (kp_u7 ls sl i now)) : Int) ≤ at_) && (decide (0 ≤ at_) && (decide (Int.toNat at_ < List.length (kp_u7 ls sl i now)) && (okE (k23) (kp_u15 ls sl at_ i now) && (D.getB (nthD (D.getL (kp_u15 ls sl at_ i now)) 0) == true && (kp_u3 ls sl la fm to at_ s i now) && (iw_okL (kp_u7 ls sl i now) && right_v0 (kp_u7 ls sl i now)))))) else !decide ((↑(List.length (kp_u0 ls i now)) : Int) ≤ at_) && (decide (0 ≤ at_) && (decide (Int.toNat at_ < List.length (kp_u0 ls i now)) && (okE (k23) (kp_u14 ls at_ i now) && (D.getB (nthD (D.getL (kp_u14 ls at_ i now)) 0) == true && (kp_u5 ls la fm to at_ s i now) && (iw_okL (kp_u0 ls i now) && right_v0 (kp_u0 ls i now))))))) else decide ((↑(List.length sl) : Int) ≤ i) || decide (Int.toNat i < List.length sl) && (okE (Ek.int IntKind.i64) (nthD sl (Int.toNat i)) && bif (kp_u2 sl i) == at_ then (kp_u1 ls i) == to || toss_pre now (kp_u2 sl i) (kp_u1 ls i) && bif toss_v1 now (kp_u2 sl i) (kp_u1 ls i) == 0 then !decide ((↑(List.length (kp_u9 ls sl i now)) : Int) ≤ at_) && (decide (0 ≤ at_) && (decide (Int.toNat at_ < List.length (kp_u9 ls sl i now)) && (okE (k23) (kp_u16 ls sl at_ i now) && (D.getB (nthD (D.getL (kp_u16 ls sl at_ i now)) 0) == true && (kp_u4 ls sl la fm to at_ s i now) && (iw_okL (kp_u9 ls sl i now) && right_v0 (kp_u9 ls sl i now)))))) else !decide ((↑(List.length now) : Int) ≤ at_) && (decide (0 ≤ at_) && (decide (Int.toNat at_ < List.length now) && (okE (k23) (nthD now (Int.toNat at_)) && (D.getB (nthD (kp_u17 at_ now) 0) == true && (kp_u6 la fm to at_ s now) && (iw_okL now && right_v0 now))))) else toss_pre now (kp_u2 sl i) (kp_u1 ls i) && bif toss_v1 now (kp_u2 sl i) (kp_u1 ls i) == 0 then !decide ((↑(List.length (kp_u9 ls sl i now)) : Int) ≤ at_) && (decide (0 ≤ at_) && (decide (Int.toNat at_ < List.length (kp_u9 ls sl i now)) && (okE (k23) (kp_u16 ls sl at_ i now) && (D.getB (nthD (D.getL (kp_u16 ls sl at_ i now)) 0) == true && (kp_u4 ls sl la fm to at_ s i now) && (iw_okL (kp_u9 ls sl i now) && right_v0 (kp_u9 ls sl i now)))))) else !decide ((↑(List.length now) : Int) ≤ at_) && (decide (0 ≤ at_) && (decide (Int.toNat at_ < List.length now) && (okE (k23) (nthD now (Int.toNat at_)) && (D.getB (nthD (kp_u17 at_ now) 0) == true && (kp_u6 la fm to at_ s now) && (iw_okL now && right_v0 now))))))))))) (
   .br (!decide (i < (↑(List.length ls) : Int)) || !decide (i < 40)) (.leaf (.inr ((some 0), mkF 157 [(5, AV.ptr (s23) 0 0 []), (9, .dat (.slc (s23) now)), (10, .dat (.int .i64 at_))], [{ sh := s23, dyn := false, frz := false, v := .dat (.agg [D.bool true, D.int .i64 la, D.int .i64 fm, D.int .i64 to, D.str s]) }]))) (.leaf (.inl ((kp_u13 i), (bif put_v2 now (kp_u20 ls i) (kp_u21 ls i) (kp_u1 ls i) (kp_u22 ls i) == 0 then bif decide ((↑(List.length sl) : Int) ≤ i) then (kp_u0 ls i now) else bif (kp_u2 sl i) == at_ then bif (kp_u1 ls i) == to then (kp_u0 ls i now) else bif toss_v1 (kp_u0 ls i now) (kp_u2 sl i) (kp_u1 ls i) == 0 then (kp_u7 ls sl i now) else (kp_u0 ls i now) else bif toss_v1 (kp_u0 ls i now) (kp_u2 sl i) (kp_u1 ls i) == 0 then (kp_u7 ls sl i now) else (kp_u0 ls i now) else bif decide ((↑(List.length sl) : Int) ≤ i) then now else bif (kp_u2 sl i) == at_ then bif (kp_u1 ls i) == to then now else bif toss_v1 now (kp_u2 sl i) (kp_u1 ls i) == 0 then (kp_u9 ls sl i now) else now else bif toss_v1 now (kp_u2 sl i) (kp_u1 ls i) == 0 then (kp_u9 ls sl i now) else now)))))) : T ((Int × List D) ⊕ LOut)) (LK K N)
  generalize (D.getB (nthD (D.getL (kp_u15 ls sl at_ i now)) 0) == true && (kp_u3 ls sl la fm to at_ s i now)) = z0
  generalize (D.getB (nthD (D.getL (kp_u14 ls at_ i now)) 0) == true && (kp_u5 ls la fm to at_ s i now)) = z1
  generalize (D.getB (nthD (D.getL (kp_u16 ls sl at_ i now)) 0) == true && (kp_u4 ls sl la fm to at_ s i now)) = z2
  generalize (decide ((↑(List.length (kp_u7 ls sl i now)) : Int) ≤ at_)) = z3
  generalize (decide (Int.toNat at_ < List.length (kp_u7 ls sl i now))) = z4
  generalize (D.getB (nthD (kp_u17 at_ now) 0) == true && (kp_u6 la fm to at_ s now)) = z5
  generalize (decide ((↑(List.length (kp_u0 ls i now)) : Int) ≤ at_)) = z6
  generalize (decide (Int.toNat at_ < List.length (kp_u0 ls i now))) = z7
  generalize (okE (k23) (kp_u15 ls sl at_ i now)) = z8
  generalize (toss_v1 (kp_u0 ls i now) (kp_u2 sl i) (kp_u1 ls i) == 0) = z9
  generalize (okE (k23) (kp_u14 ls at_ i now)) = z10
  generalize (right_v0 (kp_u7 ls sl i now)) = z11
  generalize (iw_okL (kp_u7 ls sl i now)) = z12
  generalize (toss_pre (kp_u0 ls i now) (kp_u2 sl i) (kp_u1 ls i)) = z13
  generalize (put_v2 now (kp_u20 ls i) (kp_u21 ls i) (kp_u1 ls i) (kp_u22 ls i) == 0) = z14
  generalize (decide ((↑(List.length (kp_u9 ls sl i now)) : Int) ≤ at_)) = z15
  generalize (decide (Int.toNat at_ < List.length (kp_u9 ls sl i now))) = z16
  generalize (iw_okL (kp_u0 ls i now)) = z17
  generalize (right_v0 (kp_u0 ls i now)) = z18
  generalize (put_pre now (kp_u20 ls i) (kp_u21 ls i) (kp_u1 ls i) (kp_u22 ls i)) = z19
  generalize (okE (k23) (kp_u16 ls sl at_ i now)) = z20
  generalize (toss_v1 now (kp_u2 sl i) (kp_u1 ls i) == 0) = z21
  generalize (okE (k23) (nthD ls (Int.toNat i))) = z22
  generalize (okE (k23) (nthD now (Int.toNat at_))) = z23
  generalize (right_v0 (kp_u9 ls sl i now)) = z24
  generalize (iw_okL (kp_u9 ls sl i now)) = z25
  generalize (decide (i < (↑(List.length ls) : Int))) = z26
  generalize (decide ((↑(List.length sl) : Int) ≤ i)) = z27
  generalize (decide ((↑(List.length now) : Int) ≤ at_)) = z28
  generalize (toss_pre now (kp_u2 sl i) (kp_u1 ls i)) = z29
  generalize ((kp_u1 ls i) == to) = z30
  generalize (decide (0 ≤ i)) = z31
  generalize (decide (0 ≤ at_)) = z32
  generalize (decide (i < 40)) = z33
  generalize (decide (Int.toNat i < List.length sl)) = z34
  generalize (decide (Int.toNat at_ < List.length now)) = z35
  generalize (decide (Int.toNat i < List.length ls)) = z36
  generalize ((kp_u2 sl i) == at_) = z37
  generalize (okE (Ek.int IntKind.i64) (nthD sl (Int.toNat i))) = z38
  generalize (right_v0 now) = z39
  generalize (iw_okL now) = z40
  cases z26 with
  | true =>
   cases z33 with
   | true =>
    cases z31 with
    | true =>
     cases z36 with
     | true =>
      cases z22 with
      | true =>
       cases z19 with
       | true =>
        cases z14 with
        | true =>
         cases z27 with
         | true =>
          exact hN _ _ _ (by kernel_rfl) (by kernel_rfl)
         | false =>
          cases z34 with
          | true =>
           cases z38 with
           | true =>
            cases z37 with
            | true =>
             cases z30 with
             | true =>
              exact hN _ _ _ (by kernel_rfl) (by kernel_rfl)
             | false =>
              cases z13 with
              | true =>
               cases z9 with
               | true =>
                cases z3 with
                | true =>
                 rfl
                | false =>
                 cases z32 with
                 | true =>
                  cases z4 with
                  | true =>
                   cases z8 with
                   | true =>
                    cases z0 with
                    | true =>
                     cases z12 with
                     | true =>
                      cases z11 with
                      | true =>
                       exact hN _ _ _ (by kernel_rfl) (by kernel_rfl)
                      | false =>
                       rfl
                     | false =>
                      rfl
                    | false =>
                     rfl
                   | false =>
                    rfl
                  | false =>
                   rfl
                 | false =>
                  rfl
               | false =>
                cases z6 with
                | true =>
                 rfl
                | false =>
                 cases z32 with
                 | true =>
                  cases z7 with
                  | true =>
                   cases z10 with
                   | true =>
                    cases z1 with
                    | true =>
                     cases z17 with
                     | true =>
                      cases z18 with
                      | true =>
                       exact hN _ _ _ (by kernel_rfl) (by kernel_rfl)
                      | false =>
                       rfl
                     | false =>
                      rfl
                    | false =>
                     rfl
                   | false =>
                    rfl
                  | false =>
                   rfl
                 | false =>
                  rfl
              | false =>
               rfl
            | false =>
             cases z13 with
             | true =>
              cases z9 with
              | true =>
               cases z3 with
               | true =>
                rfl
               | false =>
                cases z32 with
                | true =>
                 cases z4 with
                 | true =>
                  cases z8 with
                  | true =>
                   cases z0 with
                   | true =>
                    cases z12 with
                    | true =>
                     cases z11 with
                     | true =>
                      exact hN _ _ _ (by kernel_rfl) (by kernel_rfl)
                     | false =>
                      rfl
                    | false =>
                     rfl
                   | false =>
                    rfl
                  | false =>
                   rfl
                 | false =>
                  rfl
                | false =>
                 rfl
              | false =>
               cases z6 with
               | true =>
                rfl
               | false =>
                cases z32 with
                | true =>
                 cases z7 with
                 | true =>
                  cases z10 with
                  | true =>
                   cases z1 with
                   | true =>
                    cases z17 with
                    | true =>
                     cases z18 with
                     | true =>
                      exact hN _ _ _ (by kernel_rfl) (by kernel_rfl)
                     | false =>
                      rfl
                    | false =>
                     rfl
                   | false =>
                    rfl
                  | false =>
                   rfl
                 | false =>
                  rfl
                | false =>
                 rfl
             | false =>
              rfl
           | false =>
            rfl
          | false =>
           rfl
        | false =>
         cases z27 with
         | true =>
          exact hN _ _ _ (by kernel_rfl) (by kernel_rfl)
         | false =>
          cases z34 with
          | true =>
           cases z38 with
           | true =>
            cases z37 with
            | true =>
             cases z30 with
             | true =>
              exact hN _ _ _ (by kernel_rfl) (by kernel_rfl)
             | false =>
              cases z29 with
              | true =>
               cases z21 with
               | true =>
                cases z15 with
                | true =>
                 rfl
                | false =>
                 cases z32 with
                 | true =>
                  cases z16 with
                  | true =>
                   cases z20 with
                   | true =>
                    cases z2 with
                    | true =>
                     cases z25 with
                     | true =>
                      cases z24 with
                      | true =>
                       exact hN _ _ _ (by kernel_rfl) (by kernel_rfl)
                      | false =>
                       rfl
                     | false =>
                      rfl
                    | false =>
                     rfl
                   | false =>
                    rfl
                  | false =>
                   rfl
                 | false =>
                  rfl
               | false =>
                cases z28 with
                | true =>
                 rfl
                | false =>
                 cases z32 with
                 | true =>
                  cases z35 with
                  | true =>
                   cases z23 with
                   | true =>
                    cases z5 with
                    | true =>
                     cases z40 with
                     | true =>
                      cases z39 with
                      | true =>
                       exact hN _ _ _ (by kernel_rfl) (by kernel_rfl)
                      | false =>
                       rfl
                     | false =>
                      rfl
                    | false =>
                     rfl
                   | false =>
                    rfl
                  | false =>
                   rfl
                 | false =>
                  rfl
              | false =>
               rfl
            | false =>
             cases z29 with
             | true =>
              cases z21 with
              | true =>
               cases z15 with
               | true =>
                rfl
               | false =>
                cases z32 with
                | true =>
                 cases z16 with
                 | true =>
                  cases z20 with
                  | true =>
                   cases z2 with
                   | true =>
                    cases z25 with
                    | true =>
                     cases z24 with
                     | true =>
                      exact hN _ _ _ (by kernel_rfl) (by kernel_rfl)
                     | false =>
                      rfl
                    | false =>
                     rfl
                   | false =>
                    rfl
                  | false =>
                   rfl
                 | false =>
                  rfl
                | false =>
                 rfl
              | false =>
               cases z28 with
               | true =>
                rfl
               | false =>
                cases z32 with
                | true =>
                 cases z35 with
                 | true =>
                  cases z23 with
                  | true =>
                   cases z5 with
                   | true =>
                    cases z40 with
                    | true =>
                     cases z39 with
                     | true =>
                      exact hN _ _ _ (by kernel_rfl) (by kernel_rfl)
                     | false =>
                      rfl
                    | false =>
                     rfl
                   | false =>
                    rfl
                  | false =>
                   rfl
                 | false =>
                  rfl
                | false =>
                 rfl
             | false =>
              rfl
           | false =>
            rfl
          | false =>
           rfl
       | false =>
        rfl
      | false =>
       rfl
     | false =>
      rfl
    | false =>
     rfl
   | false =>
    rfl
  | false =>
   rfl
theorem kp_enter (ls sl : List D) (la fm to at_ : Int) (s : ByteArray) (i : Int) (now : List D) (fr : Frame') (hl : Nat.beq fr.length 157 = true) (g2 : fr.getD 2 .undef = .dat (.slc (s23) ls)) (g3 : fr.getD 3 .undef = .dat (.slc Sh.one sl)) (g5 : fr.getD 5 .undef = AV.ptr (s23) 0 0 []) (g9 : fr.getD 9 .undef = .dat (.slc (s23) now)) (g10 : fr.getD 10 .undef = .dat (.int .i64 at_)) (g12 : fr.getD 12 .undef = .dat (.int .i64 i)) : cleanF (liveAt Tryd.f3 0) 0 fr = kp_fr ls sl la fm to at_ s (i, now) := by
  have e : liveAt Tryd.f3 0 = [3, 2, 12, 9, 10, 5] := by kernel_rfl
  rw [clean_mk (Nat.eq_of_beq_eq_true hl), e]
  show mkF 157 [(3, fr.getD 3 .undef), (2, fr.getD 2 .undef), (12, fr.getD 12 .undef), (9, fr.getD 9 .undef), (10, fr.getD 10 .undef), (5, fr.getD 5 .undef)] = _
  rw [g3, g2, g12, g9, g10, g5]
  kernel_rfl
end Go.Proofs.YtggellmbhgkckaaDoor
