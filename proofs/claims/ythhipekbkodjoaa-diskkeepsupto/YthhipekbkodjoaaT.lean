/- Seat 07: DiskFuse's loop. -/
import Derived.Test.YthhipekbkodjoaaM
import Derived.Test.YthhipekbkodjoaaLA
namespace Go.Proofs.Ythhipekbkodjoaa
open Go.AX
set_option maxRecDepth 100000
def fillZ (c : Int) : List D := List.replicate (128 + c.toNat - c.toNat) (.int .u8 c)
theorem fillZ_eq (c : Int) : fillZ c = List.replicate 128 (.int .u8 c) := by unfold fillZ; rw [Nat.add_sub_cancel]
theorem fillZ_len (c : Int) : (fillZ c).length = 128 := by rw [fillZ_eq, List.length_replicate]
theorem fillZ_bytes (c : Int) : isBytes (fillZ c) = true := by
  rw [fillZ_eq]
  unfold isBytes
  rw [List.all_eq_true]
  intro d hd
  rw [List.eq_of_mem_replicate hd]; rfl
def C_fil : FunT := fun args σ => match args, σ with
  | [.dat (.int .u8 c)], [] => .leaf ([.dat (.slc .one (fillZ c))], [])
  | _, _ => .fail
theorem cfil_ok : FunOk Try.prog 24 (FunT.run C_fil) := FunOk.of cfill_ok (fun args σ r h => by
  unfold C_fil at h
  split at h
  · rw [← T.leaf_some h, fillZ_eq]; rfl
  · simp [T.run_fail] at h)
abbrev SpF : Specs := [(7, C_new), (8, C_al), (11, C_write), (13, C_flush), (15, C_fuse), (17, C_crash), (19, C_read), (24, C_fil), (25, C_off), (26, C_waits)]
theorem SpF_ok : SpecsOk Try.prog SpF := .cons cnew_ok (.cons cal_ok (.cons cwrite_ok (.cons cflush_ok (.cons cfuse_ok (.cons ccrash_ok (.cons cread_ok (.cons cfil_ok (.cons coff_ok (.cons cwaits_ok (.nil _))))))))))
abbrev HF : Hints := [(8, 0, [.frzAt 5 [1]]), (21, 6, [.frzAt 5 [1]]), (4, 0, [.kill 6, .kill 10, .kill 11, .kill 12, .kill 13]), (5, 0, [.kill 20, .kill 21, .kill 22, .kill 23]), (21, 0, [.kill 0, .kill 1, .kill 7]), (999999, 15, [.is 15 (aBool false)]), (999999, 18, [.is 18 (aBool false)]), (999999, 34, [.is 34 (aBool false)]), (999999, 38, [.is 38 (aBool false)]), (999999, 62, [.is 62 (aBool false)]), (999999, 65, [.is 65 (aBool true)]), (999999, 71, [.is 71 (aBool false)]), (999999, 75, [.is 75 (aBool false)]), (999999, 77, [.is 77 (aBool true)]), (999999, 81, [.is 81 (aBool true)]), (999999, 85, [.is 85 (aBool false)]), (999999, 91, [.is 91 (aBool true)]), (999999, 97, [.is 97 (aBool true)]), (999999, 102, [.is 102 (aBool true)])]
def fu_fr (_m _k : Nat) (n : Int) (fl : List D) : (Int × Int × List D × List D × Int × Bool) → Frame' := fun ⟨i, dn, _, _, _, _⟩ => mkF 104 [(0, .dat (.int .u8 n)), (1, .dat (.slc .one fl)), (5, dP), (7, .dat (.int .i64 dn)), (8, .dat (.int .i64 i))]
def fu_st (m k : Nat) (_n : Int) (_fl : List D) : (Int × Int × List D × List D × Int × Bool) → Store := fun ⟨_, _, ws, sf, f, u⟩ => [dB m k ws f u, sB sf]
def fu_step (m k : Nat) (n : Int) (fl : List D) : (Int × Int × List D × List D × Int × Bool) → T ((Int × Int × List D × List D × Int × Bool) ⊕ LOut) := fun ⟨i, dn, ws, sf, f, u⟩ =>
  .chk (!decide (i < IntKind.wrap IntKind.i64 (IntKind.wrap IntKind.i64 n + 3)) || write_pre k ws (fillZ 1) 3 u && (!write_v0 k (fillZ 1) f 3 u == 0 && (write_pre k (write_v1 k ws (fillZ 1) 3 u) [] 0 (write_v3 k (fillZ 1) f 3 u) && (!write_v0 k [] (write_v2 k (fillZ 1) f 3 u) 0 (write_v3 k (fillZ 1) f 3 u) == 0 && bif decide (i < (↑(List.length fl) : Int)) then decide (0 ≤ i) && (decide (Int.toNat i < List.length fl) && (okE Ek.bool (nthD fl (Int.toNat i)) && bif D.getB (nthD fl (Int.toNat i)) then bif able_v0 k 0 (write_v3 k [] (write_v2 k (fillZ 1) f 3 u) 0 (write_v3 k (fillZ 1) f 3 u)) != 0 then able_v0 k 0 (write_v3 k [] (write_v2 k (fillZ 1) f 3 u) 0 (write_v3 k (fillZ 1) f 3 u)) == 0 || !able_v0 k 0 (write_v3 k [] (write_v2 k (fillZ 1) f 3 u) 0 (write_v3 k (fillZ 1) f 3 u)) != 15 && off_v0 k (write_v3 k [] (write_v2 k (fillZ 1) f 3 u) 0 (write_v3 k (fillZ 1) f 3 u)) else bif burns_v0 (write_v2 k [] (write_v2 k (fillZ 1) f 3 u) 0 (write_v3 k (fillZ 1) f 3 u)) then off_v0 k (burns_v2 (write_v2 k [] (write_v2 k (fillZ 1) f 3 u) 0 (write_v3 k (fillZ 1) f 3 u)) (write_v3 k [] (write_v2 k (fillZ 1) f 3 u) 0 (write_v3 k (fillZ 1) f 3 u))) else flush_pre m k (write_v1 k (write_v1 k ws (fillZ 1) 3 u) [] 0 (write_v3 k (fillZ 1) f 3 u)) sf else write_pre k (write_v1 k (write_v1 k ws (fillZ 1) 3 u) [] 0 (write_v3 k (fillZ 1) f 3 u)) (fillZ (IntKind.wrap IntKind.u8 i)) 0 (write_v3 k [] (write_v2 k (fillZ 1) f 3 u) 0 (write_v3 k (fillZ 1) f 3 u)) && (write_v0 k (fillZ (IntKind.wrap IntKind.u8 i)) (write_v2 k [] (write_v2 k (fillZ 1) f 3 u) 0 (write_v3 k (fillZ 1) f 3 u)) 0 (write_v3 k [] (write_v2 k (fillZ 1) f 3 u) 0 (write_v3 k (fillZ 1) f 3 u)) == 0 || !write_v0 k (fillZ (IntKind.wrap IntKind.u8 i)) (write_v2 k [] (write_v2 k (fillZ 1) f 3 u) 0 (write_v3 k (fillZ 1) f 3 u)) 0 (write_v3 k [] (write_v2 k (fillZ 1) f 3 u) 0 (write_v3 k (fillZ 1) f 3 u)) != 15 && off_v0 k (write_v3 k (fillZ (IntKind.wrap IntKind.u8 i)) (write_v2 k [] (write_v2 k (fillZ 1) f 3 u) 0 (write_v3 k (fillZ 1) f 3 u)) 0 (write_v3 k [] (write_v2 k (fillZ 1) f 3 u) 0 (write_v3 k (fillZ 1) f 3 u)))))) else write_pre k (write_v1 k (write_v1 k ws (fillZ 1) 3 u) [] 0 (write_v3 k (fillZ 1) f 3 u)) (fillZ (IntKind.wrap IntKind.u8 i)) 0 (write_v3 k [] (write_v2 k (fillZ 1) f 3 u) 0 (write_v3 k (fillZ 1) f 3 u)) && (write_v0 k (fillZ (IntKind.wrap IntKind.u8 i)) (write_v2 k [] (write_v2 k (fillZ 1) f 3 u) 0 (write_v3 k (fillZ 1) f 3 u)) 0 (write_v3 k [] (write_v2 k (fillZ 1) f 3 u) 0 (write_v3 k (fillZ 1) f 3 u)) == 0 || !write_v0 k (fillZ (IntKind.wrap IntKind.u8 i)) (write_v2 k [] (write_v2 k (fillZ 1) f 3 u) 0 (write_v3 k (fillZ 1) f 3 u)) 0 (write_v3 k [] (write_v2 k (fillZ 1) f 3 u) 0 (write_v3 k (fillZ 1) f 3 u)) != 15 && off_v0 k (write_v3 k (fillZ (IntKind.wrap IntKind.u8 i)) (write_v2 k [] (write_v2 k (fillZ 1) f 3 u) 0 (write_v3 k (fillZ 1) f 3 u)) 0 (write_v3 k [] (write_v2 k (fillZ 1) f 3 u) 0 (write_v3 k (fillZ 1) f 3 u)))))))) (
   .br (!decide (i < IntKind.wrap IntKind.i64 (IntKind.wrap IntKind.i64 n + 3))) (.leaf (.inr ((some 0), mkF 104 [(0, .dat (.int IntKind.u8 n)), (5, AV.ptr (s61) 0 0 []), (7, .dat (.int .i64 dn))], [{ sh := s61, dyn := false, frz := false, v := AV.agg [AV.sref (Sh.arr Sh.one 128) 1 m [] 0 k, .dat (.slc (s67) ws), .dat (.int .i64 f), .dat (.bool u)] }, { sh := Sh.arr (Sh.arr Sh.one 128) 0, dyn := true, frz := false, v := .dat (.arr (Sh.arr Sh.one 128) sf) }]))) (.leaf (.inl ((IntKind.wrap IntKind.i64 (i + 1)), (bif decide (i < (↑(List.length fl) : Int)) then bif D.getB (nthD fl (Int.toNat i)) then bif able_v0 k 0 (write_v3 k [] (write_v2 k (fillZ 1) f 3 u) 0 (write_v3 k (fillZ 1) f 3 u)) != 0 then bif able_v0 k 0 (write_v3 k [] (write_v2 k (fillZ 1) f 3 u) 0 (write_v3 k (fillZ 1) f 3 u)) == 0 then IntKind.wrap IntKind.i64 (dn + 1) else dn else bif burns_v0 (write_v2 k [] (write_v2 k (fillZ 1) f 3 u) 0 (write_v3 k (fillZ 1) f 3 u)) then dn else IntKind.wrap IntKind.i64 (dn + 1) else bif write_v0 k (fillZ (IntKind.wrap IntKind.u8 i)) (write_v2 k [] (write_v2 k (fillZ 1) f 3 u) 0 (write_v3 k (fillZ 1) f 3 u)) 0 (write_v3 k [] (write_v2 k (fillZ 1) f 3 u) 0 (write_v3 k (fillZ 1) f 3 u)) == 0 then IntKind.wrap IntKind.i64 (dn + 1) else dn else bif write_v0 k (fillZ (IntKind.wrap IntKind.u8 i)) (write_v2 k [] (write_v2 k (fillZ 1) f 3 u) 0 (write_v3 k (fillZ 1) f 3 u)) 0 (write_v3 k [] (write_v2 k (fillZ 1) f 3 u) 0 (write_v3 k (fillZ 1) f 3 u)) == 0 then IntKind.wrap IntKind.i64 (dn + 1) else dn), (bif decide (i < (↑(List.length fl) : Int)) then bif D.getB (nthD fl (Int.toNat i)) then bif able_v0 k 0 (write_v3 k [] (write_v2 k (fillZ 1) f 3 u) 0 (write_v3 k (fillZ 1) f 3 u)) != 0 then write_v1 k (write_v1 k ws (fillZ 1) 3 u) [] 0 (write_v3 k (fillZ 1) f 3 u) else bif burns_v0 (write_v2 k [] (write_v2 k (fillZ 1) f 3 u) 0 (write_v3 k (fillZ 1) f 3 u)) then write_v1 k (write_v1 k ws (fillZ 1) 3 u) [] 0 (write_v3 k (fillZ 1) f 3 u) else [] else write_v1 k (write_v1 k (write_v1 k ws (fillZ 1) 3 u) [] 0 (write_v3 k (fillZ 1) f 3 u)) (fillZ (IntKind.wrap IntKind.u8 i)) 0 (write_v3 k [] (write_v2 k (fillZ 1) f 3 u) 0 (write_v3 k (fillZ 1) f 3 u)) else write_v1 k (write_v1 k (write_v1 k ws (fillZ 1) 3 u) [] 0 (write_v3 k (fillZ 1) f 3 u)) (fillZ (IntKind.wrap IntKind.u8 i)) 0 (write_v3 k [] (write_v2 k (fillZ 1) f 3 u) 0 (write_v3 k (fillZ 1) f 3 u))), (bif decide (i < (↑(List.length fl) : Int)) then bif D.getB (nthD fl (Int.toNat i)) then bif able_v0 k 0 (write_v3 k [] (write_v2 k (fillZ 1) f 3 u) 0 (write_v3 k (fillZ 1) f 3 u)) != 0 then sf else bif burns_v0 (write_v2 k [] (write_v2 k (fillZ 1) f 3 u) 0 (write_v3 k (fillZ 1) f 3 u)) then sf else List.foldl setW sf (write_v1 k (write_v1 k ws (fillZ 1) 3 u) [] 0 (write_v3 k (fillZ 1) f 3 u)) else sf else sf), (bif decide (i < (↑(List.length fl) : Int)) then bif D.getB (nthD fl (Int.toNat i)) then bif able_v0 k 0 (write_v3 k [] (write_v2 k (fillZ 1) f 3 u) 0 (write_v3 k (fillZ 1) f 3 u)) != 0 then write_v2 k [] (write_v2 k (fillZ 1) f 3 u) 0 (write_v3 k (fillZ 1) f 3 u) else burns_v1 (write_v2 k [] (write_v2 k (fillZ 1) f 3 u) 0 (write_v3 k (fillZ 1) f 3 u)) else write_v2 k (fillZ (IntKind.wrap IntKind.u8 i)) (write_v2 k [] (write_v2 k (fillZ 1) f 3 u) 0 (write_v3 k (fillZ 1) f 3 u)) 0 (write_v3 k [] (write_v2 k (fillZ 1) f 3 u) 0 (write_v3 k (fillZ 1) f 3 u)) else write_v2 k (fillZ (IntKind.wrap IntKind.u8 i)) (write_v2 k [] (write_v2 k (fillZ 1) f 3 u) 0 (write_v3 k (fillZ 1) f 3 u)) 0 (write_v3 k [] (write_v2 k (fillZ 1) f 3 u) 0 (write_v3 k (fillZ 1) f 3 u))), (bif decide (i < (↑(List.length fl) : Int)) then bif D.getB (nthD fl (Int.toNat i)) then bif able_v0 k 0 (write_v3 k [] (write_v2 k (fillZ 1) f 3 u) 0 (write_v3 k (fillZ 1) f 3 u)) != 0 then write_v3 k [] (write_v2 k (fillZ 1) f 3 u) 0 (write_v3 k (fillZ 1) f 3 u) else burns_v2 (write_v2 k [] (write_v2 k (fillZ 1) f 3 u) 0 (write_v3 k (fillZ 1) f 3 u)) (write_v3 k [] (write_v2 k (fillZ 1) f 3 u) 0 (write_v3 k (fillZ 1) f 3 u)) else write_v3 k (fillZ (IntKind.wrap IntKind.u8 i)) (write_v2 k [] (write_v2 k (fillZ 1) f 3 u) 0 (write_v3 k (fillZ 1) f 3 u)) 0 (write_v3 k [] (write_v2 k (fillZ 1) f 3 u) 0 (write_v3 k (fillZ 1) f 3 u)) else write_v3 k (fillZ (IntKind.wrap IntKind.u8 i)) (write_v2 k [] (write_v2 k (fillZ 1) f 3 u) 0 (write_v3 k (fillZ 1) f 3 u)) 0 (write_v3 k [] (write_v2 k (fillZ 1) f 3 u) 0 (write_v3 k (fillZ 1) f 3 u)))))))
theorem fu_round (lp : Loops) (m k : Nat) (n : Int) (fl : List D) (i dn : Int) (ws sf : List D) (f : Int) (u : Bool) (K : Kt) : oneRound (envOf tab SpF [] lp HF) Try.f6 0 (2) (mkF 104 [(0, .dat (.int .u8 n)), (1, .dat (.slc .one fl)), (5, dP), (7, .dat (.int .i64 dn)), (8, .dat (.int .i64 i))]) ([dB m k ws f u, sB sf]) K =
  (bif decide (i < IntKind.wrap IntKind.i64 (IntKind.wrap IntKind.i64 n + 3)) then
   (bif write_pre k ws (fillZ 1) 3 u then
    (bif D.eqb (D.bool (write_v0 k (fillZ 1) f 3 u == 0)) (D.bool false) then
     (bif write_pre k (write_v1 k ws (fillZ 1) 3 u) [] 0 (write_v3 k (fillZ 1) f 3 u) then
      (bif D.eqb (D.bool (write_v0 k [] (write_v2 k (fillZ 1) f 3 u) 0 (write_v3 k (fillZ 1) f 3 u) == 0)) (D.bool false) then
       (bif decide (i < (↑(List.length fl) : Int)) then
        (bif decide (0 ≤ i) then
         (bif decide (Int.toNat i < List.length fl) then
          (bif okE Ek.bool (nthD fl (Int.toNat i)) then
           (bif D.getB (nthD fl (Int.toNat i)) then
            (bif able_v0 k 0 (write_v3 k [] (write_v2 k (fillZ 1) f 3 u) 0 (write_v3 k (fillZ 1) f 3 u)) != 0 then
             (bif able_v0 k 0 (write_v3 k [] (write_v2 k (fillZ 1) f 3 u) 0 (write_v3 k (fillZ 1) f 3 u)) == 0 then K (Exit.normal) (mkF 104 [(0, .dat (.int IntKind.u8 n)), (1, .dat (.slc Sh.one fl)), (5, AV.ptr (s61) 0 0 []), (7, .dat (.int .i64 (IntKind.wrap IntKind.i64 (dn + 1)))), (8, .dat (.int .i64 (IntKind.wrap IntKind.i64 (i + 1)))), (29, .dat (.int .i64 i)), (30, .dat (.int .i64 (IntKind.wrap IntKind.i64 (i + 1))))]) ([{ sh := s61, dyn := false, frz := false, v := AV.agg [AV.sref (Sh.arr Sh.one 128) 1 m [] 0 k, .dat (.slc (s67) (write_v1 k (write_v1 k ws (fillZ 1) 3 u) [] 0 (write_v3 k (fillZ 1) f 3 u))), .dat (.int .i64 (write_v2 k [] (write_v2 k (fillZ 1) f 3 u) 0 (write_v3 k (fillZ 1) f 3 u))), .dat (.bool (write_v3 k [] (write_v2 k (fillZ 1) f 3 u) 0 (write_v3 k (fillZ 1) f 3 u)))] }, { sh := Sh.arr (Sh.arr Sh.one 128) 0, dyn := true, frz := false, v := .dat (.arr (Sh.arr Sh.one 128) sf) }]) else
              (bif D.eqb (D.bool (able_v0 k 0 (write_v3 k [] (write_v2 k (fillZ 1) f 3 u) 0 (write_v3 k (fillZ 1) f 3 u)) != 15)) (D.bool false) then
               (bif D.eqb (D.bool (off_v0 k (write_v3 k [] (write_v2 k (fillZ 1) f 3 u) 0 (write_v3 k (fillZ 1) f 3 u)))) (D.bool true) then K (Exit.normal) (mkF 104 [(0, .dat (.int IntKind.u8 n)), (1, .dat (.slc Sh.one fl)), (5, AV.ptr (s61) 0 0 []), (7, .dat (.int .i64 dn)), (8, .dat (.int .i64 (IntKind.wrap IntKind.i64 (i + 1)))), (29, .dat (.int .i64 i)), (30, .dat (.int .i64 (IntKind.wrap IntKind.i64 (i + 1))))]) ([{ sh := s61, dyn := false, frz := false, v := AV.agg [AV.sref (Sh.arr Sh.one 128) 1 m [] 0 k, .dat (.slc (s67) (write_v1 k (write_v1 k ws (fillZ 1) 3 u) [] 0 (write_v3 k (fillZ 1) f 3 u))), .dat (.int .i64 (write_v2 k [] (write_v2 k (fillZ 1) f 3 u) 0 (write_v3 k (fillZ 1) f 3 u))), .dat (.bool (write_v3 k [] (write_v2 k (fillZ 1) f 3 u) 0 (write_v3 k (fillZ 1) f 3 u)))] }, { sh := Sh.arr (Sh.arr Sh.one 128) 0, dyn := true, frz := false, v := .dat (.arr (Sh.arr Sh.one 128) sf) }]) else none) else none)) else
             (bif burns_v0 (write_v2 k [] (write_v2 k (fillZ 1) f 3 u) 0 (write_v3 k (fillZ 1) f 3 u)) then
              (bif D.eqb (D.bool (off_v0 k (burns_v2 (write_v2 k [] (write_v2 k (fillZ 1) f 3 u) 0 (write_v3 k (fillZ 1) f 3 u)) (write_v3 k [] (write_v2 k (fillZ 1) f 3 u) 0 (write_v3 k (fillZ 1) f 3 u))))) (D.bool true) then K (Exit.normal) (mkF 104 [(0, .dat (.int IntKind.u8 n)), (1, .dat (.slc Sh.one fl)), (5, AV.ptr (s61) 0 0 []), (7, .dat (.int .i64 dn)), (8, .dat (.int .i64 (IntKind.wrap IntKind.i64 (i + 1)))), (29, .dat (.int .i64 i)), (30, .dat (.int .i64 (IntKind.wrap IntKind.i64 (i + 1))))]) ([{ sh := s61, dyn := false, frz := false, v := AV.agg [AV.sref (Sh.arr Sh.one 128) 1 m [] 0 k, .dat (.slc (s67) (write_v1 k (write_v1 k ws (fillZ 1) 3 u) [] 0 (write_v3 k (fillZ 1) f 3 u))), .dat (.int .i64 (burns_v1 (write_v2 k [] (write_v2 k (fillZ 1) f 3 u) 0 (write_v3 k (fillZ 1) f 3 u)))), .dat (.bool (burns_v2 (write_v2 k [] (write_v2 k (fillZ 1) f 3 u) 0 (write_v3 k (fillZ 1) f 3 u)) (write_v3 k [] (write_v2 k (fillZ 1) f 3 u) 0 (write_v3 k (fillZ 1) f 3 u))))] }, { sh := Sh.arr (Sh.arr Sh.one 128) 0, dyn := true, frz := false, v := .dat (.arr (Sh.arr Sh.one 128) sf) }]) else none) else
              (bif flush_pre m k (write_v1 k (write_v1 k ws (fillZ 1) 3 u) [] 0 (write_v3 k (fillZ 1) f 3 u)) sf then K (Exit.normal) (mkF 104 [(0, .dat (.int IntKind.u8 n)), (1, .dat (.slc Sh.one fl)), (5, AV.ptr (s61) 0 0 []), (7, .dat (.int .i64 (IntKind.wrap IntKind.i64 (dn + 1)))), (8, .dat (.int .i64 (IntKind.wrap IntKind.i64 (i + 1)))), (29, .dat (.int .i64 i)), (30, .dat (.int .i64 (IntKind.wrap IntKind.i64 (i + 1))))]) ([{ sh := s61, dyn := false, frz := false, v := AV.agg [AV.sref (Sh.arr Sh.one 128) 1 m [] 0 k, .dat (.slc (s67) []), .dat (.int .i64 (burns_v1 (write_v2 k [] (write_v2 k (fillZ 1) f 3 u) 0 (write_v3 k (fillZ 1) f 3 u)))), .dat (.bool (burns_v2 (write_v2 k [] (write_v2 k (fillZ 1) f 3 u) 0 (write_v3 k (fillZ 1) f 3 u)) (write_v3 k [] (write_v2 k (fillZ 1) f 3 u) 0 (write_v3 k (fillZ 1) f 3 u))))] }, { sh := Sh.arr (Sh.arr Sh.one 128) 0, dyn := true, frz := false, v := .dat (.arr (Sh.arr Sh.one 128) (List.foldl setW sf (write_v1 k (write_v1 k ws (fillZ 1) 3 u) [] 0 (write_v3 k (fillZ 1) f 3 u)))) }]) else none))) else
            (bif write_pre k (write_v1 k (write_v1 k ws (fillZ 1) 3 u) [] 0 (write_v3 k (fillZ 1) f 3 u)) (fillZ (IntKind.wrap IntKind.u8 i)) 0 (write_v3 k [] (write_v2 k (fillZ 1) f 3 u) 0 (write_v3 k (fillZ 1) f 3 u)) then
             (bif write_v0 k (fillZ (IntKind.wrap IntKind.u8 i)) (write_v2 k [] (write_v2 k (fillZ 1) f 3 u) 0 (write_v3 k (fillZ 1) f 3 u)) 0 (write_v3 k [] (write_v2 k (fillZ 1) f 3 u) 0 (write_v3 k (fillZ 1) f 3 u)) == 0 then K (Exit.normal) (mkF 104 [(0, .dat (.int IntKind.u8 n)), (1, .dat (.slc Sh.one fl)), (5, AV.ptr (s61) 0 0 []), (7, .dat (.int .i64 (IntKind.wrap IntKind.i64 (dn + 1)))), (8, .dat (.int .i64 (IntKind.wrap IntKind.i64 (i + 1)))), (29, .dat (.int .i64 i)), (30, .dat (.int .i64 (IntKind.wrap IntKind.i64 (i + 1))))]) ([{ sh := s61, dyn := false, frz := false, v := AV.agg [AV.sref (Sh.arr Sh.one 128) 1 m [] 0 k, .dat (.slc (s67) (write_v1 k (write_v1 k (write_v1 k ws (fillZ 1) 3 u) [] 0 (write_v3 k (fillZ 1) f 3 u)) (fillZ (IntKind.wrap IntKind.u8 i)) 0 (write_v3 k [] (write_v2 k (fillZ 1) f 3 u) 0 (write_v3 k (fillZ 1) f 3 u)))), .dat (.int .i64 (write_v2 k (fillZ (IntKind.wrap IntKind.u8 i)) (write_v2 k [] (write_v2 k (fillZ 1) f 3 u) 0 (write_v3 k (fillZ 1) f 3 u)) 0 (write_v3 k [] (write_v2 k (fillZ 1) f 3 u) 0 (write_v3 k (fillZ 1) f 3 u)))), .dat (.bool (write_v3 k (fillZ (IntKind.wrap IntKind.u8 i)) (write_v2 k [] (write_v2 k (fillZ 1) f 3 u) 0 (write_v3 k (fillZ 1) f 3 u)) 0 (write_v3 k [] (write_v2 k (fillZ 1) f 3 u) 0 (write_v3 k (fillZ 1) f 3 u))))] }, { sh := Sh.arr (Sh.arr Sh.one 128) 0, dyn := true, frz := false, v := .dat (.arr (Sh.arr Sh.one 128) sf) }]) else
              (bif D.eqb (D.bool (write_v0 k (fillZ (IntKind.wrap IntKind.u8 i)) (write_v2 k [] (write_v2 k (fillZ 1) f 3 u) 0 (write_v3 k (fillZ 1) f 3 u)) 0 (write_v3 k [] (write_v2 k (fillZ 1) f 3 u) 0 (write_v3 k (fillZ 1) f 3 u)) != 15)) (D.bool false) then
               (bif D.eqb (D.bool (off_v0 k (write_v3 k (fillZ (IntKind.wrap IntKind.u8 i)) (write_v2 k [] (write_v2 k (fillZ 1) f 3 u) 0 (write_v3 k (fillZ 1) f 3 u)) 0 (write_v3 k [] (write_v2 k (fillZ 1) f 3 u) 0 (write_v3 k (fillZ 1) f 3 u))))) (D.bool true) then K (Exit.normal) (mkF 104 [(0, .dat (.int IntKind.u8 n)), (1, .dat (.slc Sh.one fl)), (5, AV.ptr (s61) 0 0 []), (7, .dat (.int .i64 dn)), (8, .dat (.int .i64 (IntKind.wrap IntKind.i64 (i + 1)))), (29, .dat (.int .i64 i)), (30, .dat (.int .i64 (IntKind.wrap IntKind.i64 (i + 1))))]) ([{ sh := s61, dyn := false, frz := false, v := AV.agg [AV.sref (Sh.arr Sh.one 128) 1 m [] 0 k, .dat (.slc (s67) (write_v1 k (write_v1 k (write_v1 k ws (fillZ 1) 3 u) [] 0 (write_v3 k (fillZ 1) f 3 u)) (fillZ (IntKind.wrap IntKind.u8 i)) 0 (write_v3 k [] (write_v2 k (fillZ 1) f 3 u) 0 (write_v3 k (fillZ 1) f 3 u)))), .dat (.int .i64 (write_v2 k (fillZ (IntKind.wrap IntKind.u8 i)) (write_v2 k [] (write_v2 k (fillZ 1) f 3 u) 0 (write_v3 k (fillZ 1) f 3 u)) 0 (write_v3 k [] (write_v2 k (fillZ 1) f 3 u) 0 (write_v3 k (fillZ 1) f 3 u)))), .dat (.bool (write_v3 k (fillZ (IntKind.wrap IntKind.u8 i)) (write_v2 k [] (write_v2 k (fillZ 1) f 3 u) 0 (write_v3 k (fillZ 1) f 3 u)) 0 (write_v3 k [] (write_v2 k (fillZ 1) f 3 u) 0 (write_v3 k (fillZ 1) f 3 u))))] }, { sh := Sh.arr (Sh.arr Sh.one 128) 0, dyn := true, frz := false, v := .dat (.arr (Sh.arr Sh.one 128) sf) }]) else none) else none)) else none)) else none) else none) else none) else
        (bif write_pre k (write_v1 k (write_v1 k ws (fillZ 1) 3 u) [] 0 (write_v3 k (fillZ 1) f 3 u)) (fillZ (IntKind.wrap IntKind.u8 i)) 0 (write_v3 k [] (write_v2 k (fillZ 1) f 3 u) 0 (write_v3 k (fillZ 1) f 3 u)) then
         (bif write_v0 k (fillZ (IntKind.wrap IntKind.u8 i)) (write_v2 k [] (write_v2 k (fillZ 1) f 3 u) 0 (write_v3 k (fillZ 1) f 3 u)) 0 (write_v3 k [] (write_v2 k (fillZ 1) f 3 u) 0 (write_v3 k (fillZ 1) f 3 u)) == 0 then K (Exit.normal) (mkF 104 [(0, .dat (.int IntKind.u8 n)), (1, .dat (.slc Sh.one fl)), (5, AV.ptr (s61) 0 0 []), (7, .dat (.int .i64 (IntKind.wrap IntKind.i64 (dn + 1)))), (8, .dat (.int .i64 (IntKind.wrap IntKind.i64 (i + 1)))), (29, .dat (.int .i64 i)), (30, .dat (.int .i64 (IntKind.wrap IntKind.i64 (i + 1))))]) ([{ sh := s61, dyn := false, frz := false, v := AV.agg [AV.sref (Sh.arr Sh.one 128) 1 m [] 0 k, .dat (.slc (s67) (write_v1 k (write_v1 k (write_v1 k ws (fillZ 1) 3 u) [] 0 (write_v3 k (fillZ 1) f 3 u)) (fillZ (IntKind.wrap IntKind.u8 i)) 0 (write_v3 k [] (write_v2 k (fillZ 1) f 3 u) 0 (write_v3 k (fillZ 1) f 3 u)))), .dat (.int .i64 (write_v2 k (fillZ (IntKind.wrap IntKind.u8 i)) (write_v2 k [] (write_v2 k (fillZ 1) f 3 u) 0 (write_v3 k (fillZ 1) f 3 u)) 0 (write_v3 k [] (write_v2 k (fillZ 1) f 3 u) 0 (write_v3 k (fillZ 1) f 3 u)))), .dat (.bool (write_v3 k (fillZ (IntKind.wrap IntKind.u8 i)) (write_v2 k [] (write_v2 k (fillZ 1) f 3 u) 0 (write_v3 k (fillZ 1) f 3 u)) 0 (write_v3 k [] (write_v2 k (fillZ 1) f 3 u) 0 (write_v3 k (fillZ 1) f 3 u))))] }, { sh := Sh.arr (Sh.arr Sh.one 128) 0, dyn := true, frz := false, v := .dat (.arr (Sh.arr Sh.one 128) sf) }]) else
          (bif D.eqb (D.bool (write_v0 k (fillZ (IntKind.wrap IntKind.u8 i)) (write_v2 k [] (write_v2 k (fillZ 1) f 3 u) 0 (write_v3 k (fillZ 1) f 3 u)) 0 (write_v3 k [] (write_v2 k (fillZ 1) f 3 u) 0 (write_v3 k (fillZ 1) f 3 u)) != 15)) (D.bool false) then
           (bif D.eqb (D.bool (off_v0 k (write_v3 k (fillZ (IntKind.wrap IntKind.u8 i)) (write_v2 k [] (write_v2 k (fillZ 1) f 3 u) 0 (write_v3 k (fillZ 1) f 3 u)) 0 (write_v3 k [] (write_v2 k (fillZ 1) f 3 u) 0 (write_v3 k (fillZ 1) f 3 u))))) (D.bool true) then K (Exit.normal) (mkF 104 [(0, .dat (.int IntKind.u8 n)), (1, .dat (.slc Sh.one fl)), (5, AV.ptr (s61) 0 0 []), (7, .dat (.int .i64 dn)), (8, .dat (.int .i64 (IntKind.wrap IntKind.i64 (i + 1)))), (29, .dat (.int .i64 i)), (30, .dat (.int .i64 (IntKind.wrap IntKind.i64 (i + 1))))]) ([{ sh := s61, dyn := false, frz := false, v := AV.agg [AV.sref (Sh.arr Sh.one 128) 1 m [] 0 k, .dat (.slc (s67) (write_v1 k (write_v1 k (write_v1 k ws (fillZ 1) 3 u) [] 0 (write_v3 k (fillZ 1) f 3 u)) (fillZ (IntKind.wrap IntKind.u8 i)) 0 (write_v3 k [] (write_v2 k (fillZ 1) f 3 u) 0 (write_v3 k (fillZ 1) f 3 u)))), .dat (.int .i64 (write_v2 k (fillZ (IntKind.wrap IntKind.u8 i)) (write_v2 k [] (write_v2 k (fillZ 1) f 3 u) 0 (write_v3 k (fillZ 1) f 3 u)) 0 (write_v3 k [] (write_v2 k (fillZ 1) f 3 u) 0 (write_v3 k (fillZ 1) f 3 u)))), .dat (.bool (write_v3 k (fillZ (IntKind.wrap IntKind.u8 i)) (write_v2 k [] (write_v2 k (fillZ 1) f 3 u) 0 (write_v3 k (fillZ 1) f 3 u)) 0 (write_v3 k [] (write_v2 k (fillZ 1) f 3 u) 0 (write_v3 k (fillZ 1) f 3 u))))] }, { sh := Sh.arr (Sh.arr Sh.one 128) 0, dyn := true, frz := false, v := .dat (.arr (Sh.arr Sh.one 128) sf) }]) else none) else none)) else none)) else none) else none) else none) else none) else K (Exit.exit 0) (mkF 104 [(0, .dat (.int IntKind.u8 n)), (5, AV.ptr (s61) 0 0 []), (7, .dat (.int .i64 dn))]) ([{ sh := s61, dyn := false, frz := false, v := AV.agg [AV.sref (Sh.arr Sh.one 128) 1 m [] 0 k, .dat (.slc (s67) ws), .dat (.int .i64 f), .dat (.bool u)] }, { sh := Sh.arr (Sh.arr Sh.one 128) 0, dyn := true, frz := false, v := .dat (.arr (Sh.arr Sh.one 128) sf) }])) := by kernel_rfl
theorem fu_hr (lp : Loops) (m k : Nat) (n : Int) (fl : List D) : ∀ (sA : (Int × Int × List D × List D × Int × Bool)) (K : Kt) (N : (Int × Int × List D × List D × Int × Bool) → Option Res), (∀ sB fr' σ', cleanF (liveAt Try.f6 0) 0 fr' = fu_fr m k n fl sB → trim (2) (fu_fr m k n fl sB) σ' = fu_st m k n fl sB → K .normal fr' σ' = N sB) →
    oneRound (envOf tab SpF [] lp HF) Try.f6 0 (2) (fu_fr m k n fl sA) (fu_st m k n fl sA) K = (fu_step m k n fl sA).k (LK K N) := by
  intro sA K N hN
  obtain ⟨i, dn, ws, sf, f, u⟩ := sA
  refine (fu_round lp m k n fl i dn ws sf f u K).trans ?_
  show _ = T.k ((
  .chk (!decide (i < IntKind.wrap IntKind.i64 (IntKind.wrap IntKind.i64 n + 3)) || write_pre k ws (fillZ 1) 3 u && (!write_v0 k (fillZ 1) f 3 u == 0 && (write_pre k (write_v1 k ws (fillZ 1) 3 u) [] 0 (write_v3 k (fillZ 1) f 3 u) && (!write_v0 k [] (write_v2 k (fillZ 1) f 3 u) 0 (write_v3 k (fillZ 1) f 3 u) == 0 && bif decide (i < (↑(List.length fl) : Int)) then decide (0 ≤ i) && (decide (Int.toNat i < List.length fl) && (okE Ek.bool (nthD fl (Int.toNat i)) && bif D.getB (nthD fl (Int.toNat i)) then bif able_v0 k 0 (write_v3 k [] (write_v2 k (fillZ 1) f 3 u) 0 (write_v3 k (fillZ 1) f 3 u)) != 0 then able_v0 k 0 (write_v3 k [] (write_v2 k (fillZ 1) f 3 u) 0 (write_v3 k (fillZ 1) f 3 u)) == 0 || !able_v0 k 0 (write_v3 k [] (write_v2 k (fillZ 1) f 3 u) 0 (write_v3 k (fillZ 1) f 3 u)) != 15 && off_v0 k (write_v3 k [] (write_v2 k (fillZ 1) f 3 u) 0 (write_v3 k (fillZ 1) f 3 u)) else bif burns_v0 (write_v2 k [] (write_v2 k (fillZ 1) f 3 u) 0 (write_v3 k (fillZ 1) f 3 u)) then off_v0 k (burns_v2 (write_v2 k [] (write_v2 k (fillZ 1) f 3 u) 0 (write_v3 k (fillZ 1) f 3 u)) (write_v3 k [] (write_v2 k (fillZ 1) f 3 u) 0 (write_v3 k (fillZ 1) f 3 u))) else flush_pre m k (write_v1 k (write_v1 k ws (fillZ 1) 3 u) [] 0 (write_v3 k (fillZ 1) f 3 u)) sf else write_pre k (write_v1 k (write_v1 k ws (fillZ 1) 3 u) [] 0 (write_v3 k (fillZ 1) f 3 u)) (fillZ (IntKind.wrap IntKind.u8 i)) 0 (write_v3 k [] (write_v2 k (fillZ 1) f 3 u) 0 (write_v3 k (fillZ 1) f 3 u)) && (write_v0 k (fillZ (IntKind.wrap IntKind.u8 i)) (write_v2 k [] (write_v2 k (fillZ 1) f 3 u) 0 (write_v3 k (fillZ 1) f 3 u)) 0 (write_v3 k [] (write_v2 k (fillZ 1) f 3 u) 0 (write_v3 k (fillZ 1) f 3 u)) == 0 || !write_v0 k (fillZ (IntKind.wrap IntKind.u8 i)) (write_v2 k [] (write_v2 k (fillZ 1) f 3 u) 0 (write_v3 k (fillZ 1) f 3 u)) 0 (write_v3 k [] (write_v2 k (fillZ 1) f 3 u) 0 (write_v3 k (fillZ 1) f 3 u)) != 15 && off_v0 k (write_v3 k (fillZ (IntKind.wrap IntKind.u8 i)) (write_v2 k [] (write_v2 k (fillZ 1) f 3 u) 0 (write_v3 k (fillZ 1) f 3 u)) 0 (write_v3 k [] (write_v2 k (fillZ 1) f 3 u) 0 (write_v3 k (fillZ 1) f 3 u)))))) else write_pre k (write_v1 k (write_v1 k ws (fillZ 1) 3 u) [] 0 (write_v3 k (fillZ 1) f 3 u)) (fillZ (IntKind.wrap IntKind.u8 i)) 0 (write_v3 k [] (write_v2 k (fillZ 1) f 3 u) 0 (write_v3 k (fillZ 1) f 3 u)) && (write_v0 k (fillZ (IntKind.wrap IntKind.u8 i)) (write_v2 k [] (write_v2 k (fillZ 1) f 3 u) 0 (write_v3 k (fillZ 1) f 3 u)) 0 (write_v3 k [] (write_v2 k (fillZ 1) f 3 u) 0 (write_v3 k (fillZ 1) f 3 u)) == 0 || !write_v0 k (fillZ (IntKind.wrap IntKind.u8 i)) (write_v2 k [] (write_v2 k (fillZ 1) f 3 u) 0 (write_v3 k (fillZ 1) f 3 u)) 0 (write_v3 k [] (write_v2 k (fillZ 1) f 3 u) 0 (write_v3 k (fillZ 1) f 3 u)) != 15 && off_v0 k (write_v3 k (fillZ (IntKind.wrap IntKind.u8 i)) (write_v2 k [] (write_v2 k (fillZ 1) f 3 u) 0 (write_v3 k (fillZ 1) f 3 u)) 0 (write_v3 k [] (write_v2 k (fillZ 1) f 3 u) 0 (write_v3 k (fillZ 1) f 3 u)))))))) (
   .br (!decide (i < IntKind.wrap IntKind.i64 (IntKind.wrap IntKind.i64 n + 3))) (.leaf (.inr ((some 0), mkF 104 [(0, .dat (.int IntKind.u8 n)), (5, AV.ptr (s61) 0 0 []), (7, .dat (.int .i64 dn))], [{ sh := s61, dyn := false, frz := false, v := AV.agg [AV.sref (Sh.arr Sh.one 128) 1 m [] 0 k, .dat (.slc (s67) ws), .dat (.int .i64 f), .dat (.bool u)] }, { sh := Sh.arr (Sh.arr Sh.one 128) 0, dyn := true, frz := false, v := .dat (.arr (Sh.arr Sh.one 128) sf) }]))) (.leaf (.inl ((IntKind.wrap IntKind.i64 (i + 1)), (bif decide (i < (↑(List.length fl) : Int)) then bif D.getB (nthD fl (Int.toNat i)) then bif able_v0 k 0 (write_v3 k [] (write_v2 k (fillZ 1) f 3 u) 0 (write_v3 k (fillZ 1) f 3 u)) != 0 then bif able_v0 k 0 (write_v3 k [] (write_v2 k (fillZ 1) f 3 u) 0 (write_v3 k (fillZ 1) f 3 u)) == 0 then IntKind.wrap IntKind.i64 (dn + 1) else dn else bif burns_v0 (write_v2 k [] (write_v2 k (fillZ 1) f 3 u) 0 (write_v3 k (fillZ 1) f 3 u)) then dn else IntKind.wrap IntKind.i64 (dn + 1) else bif write_v0 k (fillZ (IntKind.wrap IntKind.u8 i)) (write_v2 k [] (write_v2 k (fillZ 1) f 3 u) 0 (write_v3 k (fillZ 1) f 3 u)) 0 (write_v3 k [] (write_v2 k (fillZ 1) f 3 u) 0 (write_v3 k (fillZ 1) f 3 u)) == 0 then IntKind.wrap IntKind.i64 (dn + 1) else dn else bif write_v0 k (fillZ (IntKind.wrap IntKind.u8 i)) (write_v2 k [] (write_v2 k (fillZ 1) f 3 u) 0 (write_v3 k (fillZ 1) f 3 u)) 0 (write_v3 k [] (write_v2 k (fillZ 1) f 3 u) 0 (write_v3 k (fillZ 1) f 3 u)) == 0 then IntKind.wrap IntKind.i64 (dn + 1) else dn), (bif decide (i < (↑(List.length fl) : Int)) then bif D.getB (nthD fl (Int.toNat i)) then bif able_v0 k 0 (write_v3 k [] (write_v2 k (fillZ 1) f 3 u) 0 (write_v3 k (fillZ 1) f 3 u)) != 0 then write_v1 k (write_v1 k ws (fillZ 1) 3 u) [] 0 (write_v3 k (fillZ 1) f 3 u) else bif burns_v0 (write_v2 k [] (write_v2 k (fillZ 1) f 3 u) 0 (write_v3 k (fillZ 1) f 3 u)) then write_v1 k (write_v1 k ws (fillZ 1) 3 u) [] 0 (write_v3 k (fillZ 1) f 3 u) else [] else write_v1 k (write_v1 k (write_v1 k ws (fillZ 1) 3 u) [] 0 (write_v3 k (fillZ 1) f 3 u)) (fillZ (IntKind.wrap IntKind.u8 i)) 0 (write_v3 k [] (write_v2 k (fillZ 1) f 3 u) 0 (write_v3 k (fillZ 1) f 3 u)) else write_v1 k (write_v1 k (write_v1 k ws (fillZ 1) 3 u) [] 0 (write_v3 k (fillZ 1) f 3 u)) (fillZ (IntKind.wrap IntKind.u8 i)) 0 (write_v3 k [] (write_v2 k (fillZ 1) f 3 u) 0 (write_v3 k (fillZ 1) f 3 u))), (bif decide (i < (↑(List.length fl) : Int)) then bif D.getB (nthD fl (Int.toNat i)) then bif able_v0 k 0 (write_v3 k [] (write_v2 k (fillZ 1) f 3 u) 0 (write_v3 k (fillZ 1) f 3 u)) != 0 then sf else bif burns_v0 (write_v2 k [] (write_v2 k (fillZ 1) f 3 u) 0 (write_v3 k (fillZ 1) f 3 u)) then sf else List.foldl setW sf (write_v1 k (write_v1 k ws (fillZ 1) 3 u) [] 0 (write_v3 k (fillZ 1) f 3 u)) else sf else sf), (bif decide (i < (↑(List.length fl) : Int)) then bif D.getB (nthD fl (Int.toNat i)) then bif able_v0 k 0 (write_v3 k [] (write_v2 k (fillZ 1) f 3 u) 0 (write_v3 k (fillZ 1) f 3 u)) != 0 then write_v2 k [] (write_v2 k (fillZ 1) f 3 u) 0 (write_v3 k (fillZ 1) f 3 u) else burns_v1 (write_v2 k [] (write_v2 k (fillZ 1) f 3 u) 0 (write_v3 k (fillZ 1) f 3 u)) else write_v2 k (fillZ (IntKind.wrap IntKind.u8 i)) (write_v2 k [] (write_v2 k (fillZ 1) f 3 u) 0 (write_v3 k (fillZ 1) f 3 u)) 0 (write_v3 k [] (write_v2 k (fillZ 1) f 3 u) 0 (write_v3 k (fillZ 1) f 3 u)) else write_v2 k (fillZ (IntKind.wrap IntKind.u8 i)) (write_v2 k [] (write_v2 k (fillZ 1) f 3 u) 0 (write_v3 k (fillZ 1) f 3 u)) 0 (write_v3 k [] (write_v2 k (fillZ 1) f 3 u) 0 (write_v3 k (fillZ 1) f 3 u))), (bif decide (i < (↑(List.length fl) : Int)) then bif D.getB (nthD fl (Int.toNat i)) then bif able_v0 k 0 (write_v3 k [] (write_v2 k (fillZ 1) f 3 u) 0 (write_v3 k (fillZ 1) f 3 u)) != 0 then write_v3 k [] (write_v2 k (fillZ 1) f 3 u) 0 (write_v3 k (fillZ 1) f 3 u) else burns_v2 (write_v2 k [] (write_v2 k (fillZ 1) f 3 u) 0 (write_v3 k (fillZ 1) f 3 u)) (write_v3 k [] (write_v2 k (fillZ 1) f 3 u) 0 (write_v3 k (fillZ 1) f 3 u)) else write_v3 k (fillZ (IntKind.wrap IntKind.u8 i)) (write_v2 k [] (write_v2 k (fillZ 1) f 3 u) 0 (write_v3 k (fillZ 1) f 3 u)) 0 (write_v3 k [] (write_v2 k (fillZ 1) f 3 u) 0 (write_v3 k (fillZ 1) f 3 u)) else write_v3 k (fillZ (IntKind.wrap IntKind.u8 i)) (write_v2 k [] (write_v2 k (fillZ 1) f 3 u) 0 (write_v3 k (fillZ 1) f 3 u)) 0 (write_v3 k [] (write_v2 k (fillZ 1) f 3 u) 0 (write_v3 k (fillZ 1) f 3 u)))))))) : T ((Int × Int × List D × List D × Int × Bool) ⊕ LOut)) (LK K N)
  generalize (write_v0 k (fillZ (IntKind.wrap IntKind.u8 i)) (write_v2 k [] (write_v2 k (fillZ 1) f 3 u) 0 (write_v3 k (fillZ 1) f 3 u)) 0 (write_v3 k [] (write_v2 k (fillZ 1) f 3 u) 0 (write_v3 k (fillZ 1) f 3 u)) != 15) = z0
  generalize (write_v0 k (fillZ (IntKind.wrap IntKind.u8 i)) (write_v2 k [] (write_v2 k (fillZ 1) f 3 u) 0 (write_v3 k (fillZ 1) f 3 u)) 0 (write_v3 k [] (write_v2 k (fillZ 1) f 3 u) 0 (write_v3 k (fillZ 1) f 3 u)) == 0) = z1
  generalize (off_v0 k (write_v3 k (fillZ (IntKind.wrap IntKind.u8 i)) (write_v2 k [] (write_v2 k (fillZ 1) f 3 u) 0 (write_v3 k (fillZ 1) f 3 u)) 0 (write_v3 k [] (write_v2 k (fillZ 1) f 3 u) 0 (write_v3 k (fillZ 1) f 3 u)))) = z2
  generalize (write_pre k (write_v1 k (write_v1 k ws (fillZ 1) 3 u) [] 0 (write_v3 k (fillZ 1) f 3 u)) (fillZ (IntKind.wrap IntKind.u8 i)) 0 (write_v3 k [] (write_v2 k (fillZ 1) f 3 u) 0 (write_v3 k (fillZ 1) f 3 u))) = z3
  generalize (off_v0 k (burns_v2 (write_v2 k [] (write_v2 k (fillZ 1) f 3 u) 0 (write_v3 k (fillZ 1) f 3 u)) (write_v3 k [] (write_v2 k (fillZ 1) f 3 u) 0 (write_v3 k (fillZ 1) f 3 u)))) = z4
  generalize (able_v0 k 0 (write_v3 k [] (write_v2 k (fillZ 1) f 3 u) 0 (write_v3 k (fillZ 1) f 3 u)) != 0) = z5
  generalize (able_v0 k 0 (write_v3 k [] (write_v2 k (fillZ 1) f 3 u) 0 (write_v3 k (fillZ 1) f 3 u)) == 0) = z6
  generalize (able_v0 k 0 (write_v3 k [] (write_v2 k (fillZ 1) f 3 u) 0 (write_v3 k (fillZ 1) f 3 u)) != 15) = z7
  generalize (write_v0 k [] (write_v2 k (fillZ 1) f 3 u) 0 (write_v3 k (fillZ 1) f 3 u) == 0) = z8
  generalize (flush_pre m k (write_v1 k (write_v1 k ws (fillZ 1) 3 u) [] 0 (write_v3 k (fillZ 1) f 3 u)) sf) = z9
  generalize (off_v0 k (write_v3 k [] (write_v2 k (fillZ 1) f 3 u) 0 (write_v3 k (fillZ 1) f 3 u))) = z10
  generalize (decide (i < IntKind.wrap IntKind.i64 (IntKind.wrap IntKind.i64 n + 3))) = z11
  generalize (burns_v0 (write_v2 k [] (write_v2 k (fillZ 1) f 3 u) 0 (write_v3 k (fillZ 1) f 3 u))) = z12
  generalize (write_pre k (write_v1 k ws (fillZ 1) 3 u) [] 0 (write_v3 k (fillZ 1) f 3 u)) = z13
  generalize (write_v0 k (fillZ 1) f 3 u == 0) = z14
  generalize (decide (i < (↑(List.length fl) : Int))) = z15
  generalize (decide (0 ≤ i)) = z16
  generalize (write_pre k ws (fillZ 1) 3 u) = z17
  generalize (decide (Int.toNat i < List.length fl)) = z18
  generalize (okE Ek.bool (nthD fl (Int.toNat i))) = z19
  generalize (D.getB (nthD fl (Int.toNat i))) = z20
  cases z11 with
  | true =>
   cases z17 with
   | true =>
    cases z14 with
    | true =>
     rfl
    | false =>
     cases z13 with
     | true =>
      cases z8 with
      | true =>
       rfl
      | false =>
       cases z15 with
       | true =>
        cases z16 with
        | true =>
         cases z18 with
         | true =>
          cases z19 with
          | true =>
           cases z20 with
           | true =>
            cases z5 with
            | true =>
             cases z6 with
             | true =>
              exact hN _ _ _ (by kernel_rfl) (by kernel_rfl)
             | false =>
              cases z7 with
              | true =>
               rfl
              | false =>
               cases z10 with
               | true =>
                exact hN _ _ _ (by kernel_rfl) (by kernel_rfl)
               | false =>
                rfl
            | false =>
             cases z12 with
             | true =>
              cases z4 with
              | true =>
               exact hN _ _ _ (by kernel_rfl) (by kernel_rfl)
              | false =>
               rfl
             | false =>
              cases z9 with
              | true =>
               exact hN _ _ _ (by kernel_rfl) (by kernel_rfl)
              | false =>
               rfl
           | false =>
            cases z3 with
            | true =>
             cases z1 with
             | true =>
              exact hN _ _ _ (by kernel_rfl) (by kernel_rfl)
             | false =>
              cases z0 with
              | true =>
               rfl
              | false =>
               cases z2 with
               | true =>
                exact hN _ _ _ (by kernel_rfl) (by kernel_rfl)
               | false =>
                rfl
            | false =>
             rfl
          | false =>
           rfl
         | false =>
          rfl
        | false =>
         rfl
       | false =>
        cases z3 with
        | true =>
         cases z1 with
         | true =>
          exact hN _ _ _ (by kernel_rfl) (by kernel_rfl)
         | false =>
          cases z0 with
          | true =>
           rfl
          | false =>
           cases z2 with
           | true =>
            exact hN _ _ _ (by kernel_rfl) (by kernel_rfl)
           | false =>
            rfl
        | false =>
         rfl
     | false =>
      rfl
   | false =>
    rfl
  | false =>
   rfl
theorem fu_enter (m k : Nat) (n : Int) (fl : List D) (i dn : Int) (ws sf : List D) (f : Int) (u : Bool) (fr : Frame') (hl : Nat.beq fr.length 104 = true) (g0 : fr.getD 0 .undef = .dat (.int IntKind.u8 n)) (g1 : fr.getD 1 .undef = .dat (.slc Sh.one fl)) (g5 : fr.getD 5 .undef = AV.ptr (s61) 0 0 []) (g7 : fr.getD 7 .undef = .dat (.int .i64 dn)) (g8 : fr.getD 8 .undef = .dat (.int .i64 i)) : cleanF (liveAt Try.f6 0) 0 fr = fu_fr m k n fl (i, dn, ws, sf, f, u) := by
  have e : liveAt Try.f6 0 = [1, 8, 7, 0, 5] := by kernel_rfl
  rw [clean_mk (Nat.eq_of_beq_eq_true hl), e]
  show mkF 104 [(1, fr.getD 1 .undef), (8, fr.getD 8 .undef), (7, fr.getD 7 .undef), (0, fr.getD 0 .undef), (5, fr.getD 5 .undef)] = _
  rw [g1, g8, g7, g0, g5]
  kernel_rfl
end Go.Proofs.Ythhipekbkodjoaa
