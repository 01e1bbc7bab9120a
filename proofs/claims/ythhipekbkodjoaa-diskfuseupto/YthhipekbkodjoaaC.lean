/- Seat 07: what a sector has now; what is read, and written. -/
import Derived.Test.YthhipekbkodjoaaB
namespace Go.Proofs.Ythhipekbkodjoaa
open Go.AX
set_option maxRecDepth 100000
def L_nwl : Frame' → Store → T (Exit × Frame' × Store) := fun fr σ => match fr.getD 11 .undef, fr.getD 13 .undef, fr.getD 0 .undef, fr.getD 3 .undef, fr.getD 4 .undef, σ with
  | AV.fn (Fn.func 37) [] [AV.ptr Sh.one 4 0 []], AV.undef, AV.ptr (Sh.agg [Sh.one, Sh.one, Sh.one, Sh.one]) 0 0 [], AV.ptr Sh.one 2 0 [], AV.ptr (Sh.arr Sh.one 128) 3 0 [], [{ sh := Sh.agg [Sh.one, Sh.one, Sh.one, Sh.one], dyn := false, frz := false, v := AV.agg [AV.sref (Sh.arr Sh.one 128) 1 m [] 0 k, AV.dat (D.slc (Sh.agg [Sh.one, Sh.arr Sh.one 128]) ws), AV.dat (D.int IntKind.i64 f), AV.dat (D.bool u)] }, { sh := Sh.arr (Sh.arr Sh.one 128) 0, dyn := true, frz := false, v := AV.dat (D.arr (Sh.arr Sh.one 128) sf) }, { sh := Sh.one, dyn := false, frz := false, v := AV.dat (D.int IntKind.i64 n) }, { sh := Sh.arr Sh.one 128, dyn := false, frz := false, v := AV.dat d }, { sh := Sh.one, dyn := false, frz := false, v := AV.dat (D.slc (Sh.agg [Sh.one, Sh.arr Sh.one 128]) ws2) }] => .chk (Nat.beq fr.length 27) (
  .chk (decide (IntKind.wrap IntKind.i64 ((↑(List.length ws2) : Int) - 1) = (↑(List.length ws2) : Int) - 1) && (okWs ws2 && is128 d)) (
   .br (hasW ws2 n) (.leaf (Exit.ret, mkF 27 [(4, AV.ptr (Sh.arr Sh.one 128) 3 0 [])], [{ sh := s61, dyn := false, frz := false, v := AV.agg [AV.sref (Sh.arr Sh.one 128) 1 m [] 0 k, .dat (.slc (s67) ws), .dat (.int .i64 f), .dat (.bool u)] }, { sh := Sh.arr (Sh.arr Sh.one 128) 0, dyn := true, frz := false, v := .dat (.arr (Sh.arr Sh.one 128) sf) }, { sh := Sh.one, dyn := false, frz := false, v := .dat (.int .i64 n) }, { sh := Sh.arr Sh.one 128, dyn := false, frz := false, v := .dat (.arr Sh.one (nowW ws2 n)) }, { sh := Sh.one, dyn := false, frz := false, v := .dat (.slc (s67) ws2) }])) (.leaf (Exit.normal, mkF 27 [(0, AV.ptr (s61) 0 0 []), (3, AV.ptr Sh.one 2 0 []), (4, AV.ptr (Sh.arr Sh.one 128) 3 0 []), (11, AV.fn (Fn.func 37) [] [AV.ptr Sh.one 4 0 []])], [{ sh := s61, dyn := false, frz := false, v := AV.agg [AV.sref (Sh.arr Sh.one 128) 1 m [] 0 k, .dat (.slc (s67) ws), .dat (.int .i64 f), .dat (.bool u)] }, { sh := Sh.arr (Sh.arr Sh.one 128) 0, dyn := true, frz := false, v := .dat (.arr (Sh.arr Sh.one 128) sf) }, { sh := Sh.one, dyn := false, frz := false, v := .dat (.int .i64 n) }, { sh := Sh.arr Sh.one 128, dyn := false, frz := false, v := AV.dat d }, { sh := Sh.one, dyn := false, frz := false, v := .dat (.slc (s67) ws2) }]))))
  | _, _, _, _, _, _ => .fail
theorem nwl_grun (lp : Loops) (m k : Nat) (ws sf ws2 : List D) (f n : Int) (u : Bool) (d : D) (K : Kt) : genRun (Env.gen (envOf tab SpB [] lp []) (List.length ([dB m k ws f u, sB sf, iB n, rB d, wB ws2] : Store)) (Y_nw) (Loops.get ([(loopKey (loopAt Try.f37 0).2.1, L_bl)])) (Hints.get ([]))) (loopAt Try.f33 0).1 (loopAt Try.f33 0).2.2 Try.f37 [] [AV.ptr Sh.one 4 0 []] (mkF 27 [(0, dP), (3, .ptr .one 2 0 []), (4, .ptr (.arr .one 128) 3 0 []), (11, .fn (.func 37) [] [.ptr .one 4 0 []]), (13, .undef)]) ([dB m k ws f u, sB sf, iB n, rB d, wB ws2]) K = (cond (decide (IntKind.wrap IntKind.i64 ((↑(List.length ws2) : Int) - 1) = (↑(List.length ws2) : Int) - 1) && (okWs ws2 && is128 d)) ((cond (hasW ws2 n) (K (Exit.ret) (mkF 27 [(4, AV.ptr (Sh.arr Sh.one 128) 3 0 [])]) ([{ sh := s61, dyn := false, frz := false, v := AV.agg [AV.sref (Sh.arr Sh.one 128) 1 m [] 0 k, .dat (.slc (s67) ws), .dat (.int .i64 f), .dat (.bool u)] }, { sh := Sh.arr (Sh.arr Sh.one 128) 0, dyn := true, frz := false, v := .dat (.arr (Sh.arr Sh.one 128) sf) }, { sh := Sh.one, dyn := false, frz := false, v := .dat (.int .i64 n) }, { sh := Sh.arr Sh.one 128, dyn := false, frz := false, v := .dat (.arr Sh.one (nowW ws2 n)) }, { sh := Sh.one, dyn := false, frz := false, v := .dat (.slc (s67) ws2) }])) (K (Exit.normal) (mkF 27 [(0, AV.ptr (s61) 0 0 []), (3, AV.ptr Sh.one 2 0 []), (4, AV.ptr (Sh.arr Sh.one 128) 3 0 []), (11, AV.fn (Fn.func 37) [] [AV.ptr Sh.one 4 0 []])]) ([{ sh := s61, dyn := false, frz := false, v := AV.agg [AV.sref (Sh.arr Sh.one 128) 1 m [] 0 k, .dat (.slc (s67) ws), .dat (.int .i64 f), .dat (.bool u)] }, { sh := Sh.arr (Sh.arr Sh.one 128) 0, dyn := true, frz := false, v := .dat (.arr (Sh.arr Sh.one 128) sf) }, { sh := Sh.one, dyn := false, frz := false, v := .dat (.int .i64 n) }, { sh := Sh.arr Sh.one 128, dyn := false, frz := false, v := AV.dat d }, { sh := Sh.one, dyn := false, frz := false, v := .dat (.slc (s67) ws2) }])))) (none)) := by kernel_rfl
theorem nwl_clean (_m _k : Nat) (_ws _sf _ws2 : List D) (_f _n : Int) (_u : Bool) (_d : D) (fr : Frame') (hl : Nat.beq fr.length 27 = true) (g11 : fr.getD 11 .undef = AV.fn (Fn.func 37) [] [AV.ptr Sh.one 4 0 []]) (g13 : fr.getD 13 .undef = AV.undef) (g0 : fr.getD 0 .undef = AV.ptr (s61) 0 0 []) (g3 : fr.getD 3 .undef = AV.ptr Sh.one 2 0 []) (g4 : fr.getD 4 .undef = AV.ptr (Sh.arr Sh.one 128) 3 0 []) : cleanF (rngLiveAt Try.f33 0) 0 fr = mkF 27 [(0, dP), (3, .ptr .one 2 0 []), (4, .ptr (.arr .one 128) 3 0 []), (11, .fn (.func 37) [] [.ptr .one 4 0 []]), (13, .undef)] := by
  have e : rngLiveAt Try.f33 0 = [11, 13, 0, 3, 4] := by kernel_rfl
  rw [clean_mk (Nat.eq_of_beq_eq_true hl), e]
  show mkF 27 [(11, fr.getD 11 .undef), (13, fr.getD 13 .undef), (0, fr.getD 0 .undef), (3, fr.getD 3 .undef), (4, fr.getD 4 .undef)] = _
  rw [g11, g13, g0, g3, g4]
  kernel_rfl
theorem nwl_rangeOk {kq : Nat} (lp : Loops) (hk : Loops.get lp 3 = some L_nwl) (hgl : ∀ (m k : Nat) (ws sf ws2 : List D) (f n : Int) (u : Bool) (d : D), ∀ z ∈ genLoops Try.f37, LoopOkN Try.prog kq (Env.gen (envOf tab SpB [] lp []) (List.length ([dB m k ws f u, sB sf, iB n, rB d, wB ws2] : Store)) (Y_nw) (Loops.get ([(loopKey (loopAt Try.f37 0).2.1, L_bl)])) (Hints.get ([]))) z.1 z.2) : LoopOkN Try.prog (kq + 1) (envOf tab SpB [] lp []) (loopAt Try.f33 0).1 (loopAt Try.f33 0).2 := by
  refine range_ok (L := L_nwl) (gf := 37) (gn := Try.f37) (by kernel_rfl) hk (by kernel_rfl) (by kernel_rfl) ?_
  intro fr σ p h K r hK
  unfold L_nwl at h
  split at h
  · rename_i m k ws f u sf n d ws2 g11 g13 g0 g3 g4
    obtain ⟨hl, h⟩ := T.chk_some h
    refine ⟨mkF 27 [(0, dP), (3, .ptr .one 2 0 []), (4, .ptr (.arr .one 128) 3 0 []), (11, .fn (.func 37) [] [.ptr .one 4 0 []]), (13, .undef)], AV.fn (Fn.func 37) [] [AV.ptr Sh.one 4 0 []], [], [AV.ptr Sh.one 4 0 []], Y_nw, Loops.get ([(loopKey (loopAt Try.f37 0).2.1, L_bl)]), Hints.get ([]), nwl_clean m k ws sf ws2 f n u d fr hl g11 g13 g0 g3 g4, by kernel_rfl, by kernel_rfl, nw_Y, hgl m k ws sf ws2 f n u d, ?_⟩
    exact (nwl_grun lp m k ws sf ws2 f n u d K).trans ((T.k_run (g := fun q : Exit × Frame' × Store => K q.1 q.2.1 q.2.2) h).trans hK)
  · simp [T.run_fail] at h
theorem now_loops : ∀ x ∈ fnLoops Try.f33, LoopOk Try.prog (envOf tab SpB [] [(3, L_nwl)] []) x.1 x.2 :=
  loops_one (by kernel_rfl) (nwl_rangeOk [(3, L_nwl)] rfl fun m k ws sf ws2 f n u d => gens_all 1 (by kernel_rfl) (by kernel_rfl) fun i hi => by
    obtain rfl : i = 0 := by omega
    exact bl_loopOk _ rfl)
def now_v0 (ws : List D) (sf : List D) (n : Int) : List D := bif hasW ws n then nowW ws n else D.getL (nthD sf (0 + Int.toNat n))
def now_pre (m : Nat) (k : Nat) (ws : List D) (sf : List D) (n : Int) : Bool := decide (IntKind.wrap IntKind.i64 ((↑(List.length ws) : Int) - 1) = (↑(List.length ws) : Int) - 1) && (okWs ws && true) && (hasW ws n || decide (0 ≤ n) && (decide (n < (↑k : Int)) && (Nat.beq (List.length sf) m && (decide (0 + Int.toNat n < List.length sf) && (okS (Sh.arr Sh.one 128) (nthD sf (0 + Int.toNat n)) && Sh.eqb (Sh.arr Sh.one 128) (Sh.arr Sh.one (List.length (D.getL (nthD sf (0 + Int.toNat n))))))))))
def C_now : FunT := fun args σ => match args, σ with
  | [AV.ptr (Sh.agg [Sh.one, Sh.one, Sh.one, Sh.one]) 0 0 [], AV.dat (D.int IntKind.i64 n)], [{ sh := Sh.agg [Sh.one, Sh.one, Sh.one, Sh.one], dyn := false, frz := false, v := AV.agg [AV.sref (Sh.arr Sh.one 128) 1 m [] 0 k, AV.dat (D.slc (Sh.agg [Sh.one, Sh.arr Sh.one 128]) ws), AV.dat (D.int IntKind.i64 f), AV.dat (D.bool u)] }, { sh := Sh.arr (Sh.arr Sh.one 128) 0, dyn := true, frz := false, v := AV.dat (D.arr (Sh.arr Sh.one 128) sf) }] => .chk ((now_pre m k ws sf n)) (.leaf ([AV.dat (D.arr Sh.one (now_v0 ws sf n))], [{ sh := s61, dyn := false, frz := false, v := AV.agg [AV.sref (Sh.arr Sh.one 128) 1 m [] 0 k, AV.dat (D.slc (s67) ws), AV.dat (D.int IntKind.i64 f), AV.dat (D.bool u)] }, { sh := Sh.arr (Sh.arr Sh.one 128) 0, dyn := true, frz := false, v := AV.dat (D.arr (Sh.arr Sh.one 128) sf) }]))
  | _, _ => .fail
theorem now_raw0 (m k : Nat) (ws sf : List D) (f n : Int) (u : Bool) : runF (envOf tab SpB [] [(3, L_nwl)] []) false Try.f33 [dP, .dat (.int .i64 n)] [dB m k ws f u, sB sf] =
  (bif decide (IntKind.wrap IntKind.i64 ((↑(List.length ws) : Int) - 1) = (↑(List.length ws) : Int) - 1) && (okWs ws && true) then
   (bif hasW ws n then some ([.dat (.arr Sh.one (nowW ws n))], [{ sh := s61, dyn := false, frz := false, v := AV.agg [AV.sref (Sh.arr Sh.one 128) 1 m [] 0 k, .dat (.slc (s67) ws), .dat (.int .i64 f), .dat (.bool u)] }, { sh := Sh.arr (Sh.arr Sh.one 128) 0, dyn := true, frz := false, v := .dat (.arr (Sh.arr Sh.one 128) sf) }]) else
    (bif decide (0 ≤ n) then
     (bif decide (n < (↑k : Int)) then
      (bif Nat.beq (List.length sf) m && true && true then
       (bif decide (0 + Int.toNat n < List.length sf) then
        (bif okS (Sh.arr Sh.one 128) (nthD sf (0 + Int.toNat n)) then
         (bif Sh.eqb (Sh.arr Sh.one 128) (Sh.arr Sh.one (List.length (D.getL (nthD sf (0 + Int.toNat n))))) then some ([.dat (.arr Sh.one (D.getL (nthD sf (0 + Int.toNat n))))], [{ sh := s61, dyn := false, frz := false, v := AV.agg [AV.sref (Sh.arr Sh.one 128) 1 m [] 0 k, .dat (.slc (s67) ws), .dat (.int .i64 f), .dat (.bool u)] }, { sh := Sh.arr (Sh.arr Sh.one 128) 0, dyn := true, frz := false, v := .dat (.arr (Sh.arr Sh.one 128) sf) }]) else none) else none) else none) else none) else none) else none)) else none) := by kernel_rfl
theorem now_case0 (m k : Nat) (ws sf : List D) (f n : Int) (u : Bool) : runF (envOf tab SpB [] [(3, L_nwl)] []) false Try.f33 [dP, .dat (.int .i64 n)] [dB m k ws f u, sB sf] = FunT.run C_now [dP, .dat (.int .i64 n)] [dB m k ws f u, sB sf] := (now_raw0 m k ws sf f n u).trans (by
  show _ = (cond (decide (IntKind.wrap IntKind.i64 ((↑(List.length ws) : Int) - 1) = (↑(List.length ws) : Int) - 1) && (okWs ws && true) && (hasW ws n || decide (0 ≤ n) && (decide (n < (↑k : Int)) && (Nat.beq (List.length sf) m && (decide (0 + Int.toNat n < List.length sf) && (okS (Sh.arr Sh.one 128) (nthD sf (0 + Int.toNat n)) && Sh.eqb (Sh.arr Sh.one 128) (Sh.arr Sh.one (List.length (D.getL (nthD sf (0 + Int.toNat n))))))))))) (some (([.dat (.arr Sh.one (bif hasW ws n then nowW ws n else D.getL (nthD sf (0 + Int.toNat n))))], [{ sh := s61, dyn := false, frz := false, v := AV.agg [AV.sref (Sh.arr Sh.one 128) 1 m [] 0 k, .dat (.slc (s67) ws), .dat (.int .i64 f), .dat (.bool u)] }, { sh := Sh.arr (Sh.arr Sh.one 128) 0, dyn := true, frz := false, v := .dat (.arr (Sh.arr Sh.one 128) sf) }]) : Res)) none)
  generalize (decide (IntKind.wrap IntKind.i64 ((↑(List.length ws) : Int) - 1) = (↑(List.length ws) : Int) - 1) && (okWs ws && true)) = z0
  generalize (decide (0 + Int.toNat n < List.length sf)) = z1
  generalize (Sh.eqb (Sh.arr Sh.one 128) (Sh.arr Sh.one (List.length (D.getL (nthD sf (0 + Int.toNat n)))))) = z2
  generalize (okS (Sh.arr Sh.one 128) (nthD sf (0 + Int.toNat n))) = z3
  generalize (decide (0 ≤ n)) = z4
  generalize (decide (n < (↑k : Int))) = z5
  generalize (Nat.beq (List.length sf) m) = z6
  generalize (hasW ws n) = z7
  cases z0 with
  | true =>
   cases z7 with
   | true =>
    rfl
   | false =>
    cases z4 with
    | true =>
     cases z5 with
     | true =>
      cases z6 with
      | true =>
       cases z1 with
       | true =>
        cases z3 with
        | true =>
         cases z2 with
         | true =>
          rfl
         | false =>
          rfl
        | false =>
         rfl
       | false =>
        rfl
      | false =>
       rfl
     | false =>
      rfl
    | false =>
     rfl
  | false =>
   rfl
  )
theorem cnow_ok : FunOk Try.prog 33 (FunT.run C_now) := by
  refine fun_ok (E := envOf tab SpB [] [(3, L_nwl)] []) (fz := false) (fn := Try.f33) (envOf_ok progOk SpB_ok) (by kernel_rfl) (by kernel_rfl) now_loops ?_
  intro args σ r h
  unfold C_now at h
  split at h
  · exact (now_case0 _ _ _ _ _ _ _).trans h
  · simp [T.run_fail] at h
abbrev SpC : Specs := [(27, C_made), (28, C_able), (29, C_clip), (30, C_burns), (33, C_now)]
theorem SpC_ok : SpecsOk Try.prog SpC := .cons cmade_ok (.cons cable_ok (.cons cclip_ok (.cons cburns_ok (.cons cnow_ok (.nil _)))))
def read_pre (m : Nat) (k : Nat) (ws : List D) (sf : List D) (n : Int) : Bool := now_pre m k ws sf n && Sh.eqb (Sh.arr Sh.one 128) (Sh.arr Sh.one (List.length (now_v0 ws sf n)))
def C_read : FunT := fun args σ => match args, σ with
  | [AV.ptr (Sh.agg [Sh.one, Sh.one, Sh.one, Sh.one]) 0 0 [], AV.dat (D.int IntKind.i64 n)], [{ sh := Sh.agg [Sh.one, Sh.one, Sh.one, Sh.one], dyn := false, frz := false, v := AV.agg [AV.sref (Sh.arr Sh.one 128) 1 m [] 0 k, AV.dat (D.slc (Sh.agg [Sh.one, Sh.arr Sh.one 128]) ws), AV.dat (D.int IntKind.i64 f), AV.dat (D.bool u)] }, { sh := Sh.arr (Sh.arr Sh.one 128) 0, dyn := true, frz := false, v := AV.dat (D.arr (Sh.arr Sh.one 128) sf) }] =>
    .br (able_v0 k n u != 0) (.leaf ([AV.fslc Sh.one [], .dat (.int .i64 (able_v0 k n u))], [{ sh := s61, dyn := false, frz := false, v := AV.agg [AV.sref (Sh.arr Sh.one 128) 1 m [] 0 k, .dat (.slc (s67) ws), .dat (.int .i64 f), .dat (.bool u)] }, { sh := Sh.arr (Sh.arr Sh.one 128) 0, dyn := true, frz := false, v := .dat (.arr (Sh.arr Sh.one 128) sf) }])) (.chk ((read_pre m k ws sf n)) (.leaf ([AV.sref Sh.one 2 0 [] 0 128, .dat (.int .i64 0)], [{ sh := s61, dyn := false, frz := false, v := AV.agg [AV.sref (Sh.arr Sh.one 128) 1 m [] 0 k, .dat (.slc (s67) ws), .dat (.int .i64 f), .dat (.bool u)] }, { sh := Sh.arr (Sh.arr Sh.one 128) 0, dyn := true, frz := false, v := .dat (.arr (Sh.arr Sh.one 128) sf) }, { sh := Sh.arr Sh.one 128, dyn := false, frz := false, v := .dat (.arr Sh.one (now_v0 ws sf n)) }])))
  | _, _ => .fail
theorem read_raw0 (m k : Nat) (ws sf : List D) (f n : Int) (u : Bool) : runF (envOf tab SpC [] [] []) false Try.f19 [dP, .dat (.int .i64 n)] [dB m k ws f u, sB sf] =
  (bif able_v0 k n u != 0 then some ([AV.fslc Sh.one [], .dat (.int .i64 (able_v0 k n u))], [{ sh := s61, dyn := false, frz := false, v := AV.agg [AV.sref (Sh.arr Sh.one 128) 1 m [] 0 k, .dat (.slc (s67) ws), .dat (.int .i64 f), .dat (.bool u)] }, { sh := Sh.arr (Sh.arr Sh.one 128) 0, dyn := true, frz := false, v := .dat (.arr (Sh.arr Sh.one 128) sf) }]) else
   (bif now_pre m k ws sf n then
    (bif Sh.eqb (Sh.arr Sh.one 128) (Sh.arr Sh.one (List.length (now_v0 ws sf n))) then some ([AV.sref Sh.one 2 0 [] 0 128, .dat (.int .i64 0)], [{ sh := s61, dyn := false, frz := false, v := AV.agg [AV.sref (Sh.arr Sh.one 128) 1 m [] 0 k, .dat (.slc (s67) ws), .dat (.int .i64 f), .dat (.bool u)] }, { sh := Sh.arr (Sh.arr Sh.one 128) 0, dyn := true, frz := false, v := .dat (.arr (Sh.arr Sh.one 128) sf) }, { sh := Sh.arr Sh.one 128, dyn := false, frz := false, v := .dat (.arr Sh.one (now_v0 ws sf n)) }]) else none) else none)) := by kernel_rfl
theorem read_case0 (m k : Nat) (ws sf : List D) (f n : Int) (u : Bool) : runF (envOf tab SpC [] [] []) false Try.f19 [dP, .dat (.int .i64 n)] [dB m k ws f u, sB sf] = FunT.run C_read [dP, .dat (.int .i64 n)] [dB m k ws f u, sB sf] := (read_raw0 m k ws sf f n u).trans (by
  show _ = (cond (able_v0 k n u != 0) (some (([AV.fslc Sh.one [], .dat (.int .i64 (able_v0 k n u))], [{ sh := s61, dyn := false, frz := false, v := AV.agg [AV.sref (Sh.arr Sh.one 128) 1 m [] 0 k, .dat (.slc (s67) ws), .dat (.int .i64 f), .dat (.bool u)] }, { sh := Sh.arr (Sh.arr Sh.one 128) 0, dyn := true, frz := false, v := .dat (.arr (Sh.arr Sh.one 128) sf) }]) : Res)) (cond (now_pre m k ws sf n && Sh.eqb (Sh.arr Sh.one 128) (Sh.arr Sh.one (List.length (now_v0 ws sf n)))) (some (([AV.sref Sh.one 2 0 [] 0 128, .dat (.int .i64 0)], [{ sh := s61, dyn := false, frz := false, v := AV.agg [AV.sref (Sh.arr Sh.one 128) 1 m [] 0 k, .dat (.slc (s67) ws), .dat (.int .i64 f), .dat (.bool u)] }, { sh := Sh.arr (Sh.arr Sh.one 128) 0, dyn := true, frz := false, v := .dat (.arr (Sh.arr Sh.one 128) sf) }, { sh := Sh.arr Sh.one 128, dyn := false, frz := false, v := .dat (.arr Sh.one (now_v0 ws sf n)) }]) : Res)) none))
  generalize (Sh.eqb (Sh.arr Sh.one 128) (Sh.arr Sh.one (List.length (now_v0 ws sf n)))) = z0
  generalize (able_v0 k n u != 0) = z1
  generalize (now_pre m k ws sf n) = z2
  cases z1 with
  | true =>
   rfl
  | false =>
   cases z2 with
   | true =>
    cases z0 with
    | true =>
     rfl
    | false =>
     rfl
   | false =>
    rfl
  )
theorem cread_ok : FunOk Try.prog 19 (FunT.run C_read) := by
  refine fun_ok (E := envOf tab SpC [] [] []) (fz := false) (fn := Try.f19) (envOf_ok progOk SpC_ok) (by kernel_rfl) (by kernel_rfl) (loops_none (by kernel_rfl)) ?_
  intro args σ r h
  unfold C_read at h
  split at h
  · exact (read_case0 _ _ _ _ _ _ _).trans h
  · simp [T.run_fail] at h
def write_v0 (k : Nat) (b : List D) (f : Int) (n : Int) (u : Bool) : Int := bif able_v0 k n u != 0 then able_v0 k n u else bif (↑(List.length b) : Int) != 128 then 1 else bif burns_v0 f then 15 else 0
def write_v1 (k : Nat) (ws : List D) (b : List D) (n : Int) (u : Bool) : List D := bif able_v0 k n u != 0 then ws else bif (↑(List.length b) : Int) != 128 then ws else seg (seg ws 0 (Int.toNat (↑(List.length ws) : Int) - 0) ++ [D.agg [D.int .i64 n, D.arr Sh.one (seg b 0 128)]]) 0 (List.length (seg ws 0 (Int.toNat (↑(List.length ws) : Int) - 0)) + 1)
def write_v2 (k : Nat) (b : List D) (f : Int) (n : Int) (u : Bool) : Int := bif able_v0 k n u != 0 then f else bif (↑(List.length b) : Int) != 128 then f else burns_v1 f
def write_v3 (k : Nat) (b : List D) (f : Int) (n : Int) (u : Bool) : Bool := bif able_v0 k n u != 0 then u else bif (↑(List.length b) : Int) != 128 then u else burns_v2 f u
def write_pre (k : Nat) (ws : List D) (b : List D) (n : Int) (u : Bool) : Bool := able_v0 k n u != 0 || ((↑(List.length b) : Int) != 128 || clip_pre ws && (decide (128 ≤ List.length b) && (Sh.eqb (Sh.arr Sh.one 128) (Sh.arr Sh.one (List.length (seg b 0 128))) && (fits (s67) [D.agg [D.int .i64 n, D.arr Sh.one (seg b 0 128)]] && (D.eqb (D.slc (s67) ws) (D.slc (s67) ws) && (decide ((List.length (seg ws 0 (Int.toNat (↑(List.length ws) : Int) - 0)) + 1) * 136 ≤ 35184372088832) && Nat.beq (List.length (seg ws 0 (Int.toNat (↑(List.length ws) : Int) - 0) ++ [D.agg [D.int .i64 n, D.arr Sh.one (seg b 0 128)]])) (List.length (seg ws 0 (Int.toNat (↑(List.length ws) : Int) - 0)) + 1)))))))
def C_write : FunT := fun args σ => match args, σ with
  | [AV.ptr (Sh.agg [Sh.one, Sh.one, Sh.one, Sh.one]) 0 0 [], AV.dat (D.int IntKind.i64 n), AV.dat (D.slc Sh.one b)], [{ sh := Sh.agg [Sh.one, Sh.one, Sh.one, Sh.one], dyn := false, frz := false, v := AV.agg [AV.sref (Sh.arr Sh.one 128) 1 m [] 0 k, AV.dat (D.slc (Sh.agg [Sh.one, Sh.arr Sh.one 128]) ws), AV.dat (D.int IntKind.i64 f), AV.dat (D.bool u)] }, { sh := Sh.arr (Sh.arr Sh.one 128) 0, dyn := true, frz := false, v := AV.dat (D.arr (Sh.arr Sh.one 128) sf) }] => .chk ((write_pre k ws b n u)) (.leaf ([AV.dat (D.int IntKind.i64 (write_v0 k b f n u))], [{ sh := s61, dyn := false, frz := false, v := AV.agg [AV.sref (Sh.arr Sh.one 128) 1 m [] 0 k, AV.dat (D.slc (s67) (write_v1 k ws b n u)), AV.dat (D.int IntKind.i64 (write_v2 k b f n u)), AV.dat (D.bool (write_v3 k b f n u))] }, { sh := Sh.arr (Sh.arr Sh.one 128) 0, dyn := true, frz := false, v := AV.dat (D.arr (Sh.arr Sh.one 128) sf) }]))
  | _, _ => .fail
theorem write_raw0 (m k : Nat) (ws sf b : List D) (f n : Int) (u : Bool) : runF (envOf tab SpC [] [] [(7, 0, [.frzAt 0 [1]]), (777777, 29, [.cut 0])]) false Try.f11 [dP, .dat (.int .i64 n), .dat (.slc .one b)] [dB m k ws f u, sB sf] =
  (bif able_v0 k n u != 0 then some ([.dat (.int .i64 (able_v0 k n u))], [{ sh := s61, dyn := false, frz := false, v := AV.agg [AV.sref (Sh.arr Sh.one 128) 1 m [] 0 k, .dat (.slc (s67) ws), .dat (.int .i64 f), .dat (.bool u)] }, { sh := Sh.arr (Sh.arr Sh.one 128) 0, dyn := true, frz := false, v := .dat (.arr (Sh.arr Sh.one 128) sf) }]) else
   (bif (↑(List.length b) : Int) != 128 then some ([.dat (.int .i64 1)], [{ sh := s61, dyn := false, frz := false, v := AV.agg [AV.sref (Sh.arr Sh.one 128) 1 m [] 0 k, .dat (.slc (s67) ws), .dat (.int .i64 f), .dat (.bool u)] }, { sh := Sh.arr (Sh.arr Sh.one 128) 0, dyn := true, frz := false, v := .dat (.arr (Sh.arr Sh.one 128) sf) }]) else
    (bif clip_pre ws then
     (bif decide (128 ≤ List.length b) then
      (bif Sh.eqb (Sh.arr Sh.one 128) (Sh.arr Sh.one (List.length (seg b 0 128))) && true then
       (bif fits (s67) [D.agg [D.int .i64 n, D.arr Sh.one (seg b 0 128)]] then
        (bif fits (s67) [D.agg [D.int .i64 n, D.arr Sh.one (seg b 0 128)]] then
         (bif D.eqb (D.slc (s67) ws) (D.slc (s67) ws) && true then
          (bif fits (s67) [D.agg [D.int .i64 n, D.arr Sh.one (seg b 0 128)]] then
           (bif decide ((List.length (seg ws 0 (Int.toNat (↑(List.length ws) : Int) - 0)) + 1) * 136 ≤ 35184372088832) then
            (bif Nat.beq (List.length (seg ws 0 (Int.toNat (↑(List.length ws) : Int) - 0) ++ [D.agg [D.int .i64 n, D.arr Sh.one (seg b 0 128)]])) (List.length (seg ws 0 (Int.toNat (↑(List.length ws) : Int) - 0)) + 1) then
             (bif burns_v0 f then some ([.dat (.int .i64 15)], [{ sh := s61, dyn := false, frz := false, v := AV.agg [AV.sref (Sh.arr Sh.one 128) 1 m [] 0 k, .dat (.slc (s67) (seg (seg ws 0 (Int.toNat (↑(List.length ws) : Int) - 0) ++ [D.agg [D.int .i64 n, D.arr Sh.one (seg b 0 128)]]) 0 (List.length (seg ws 0 (Int.toNat (↑(List.length ws) : Int) - 0)) + 1))), .dat (.int .i64 (burns_v1 f)), .dat (.bool (burns_v2 f u))] }, { sh := Sh.arr (Sh.arr Sh.one 128) 0, dyn := true, frz := false, v := .dat (.arr (Sh.arr Sh.one 128) sf) }]) else some ([.dat (.int .i64 0)], [{ sh := s61, dyn := false, frz := false, v := AV.agg [AV.sref (Sh.arr Sh.one 128) 1 m [] 0 k, .dat (.slc (s67) (seg (seg ws 0 (Int.toNat (↑(List.length ws) : Int) - 0) ++ [D.agg [D.int .i64 n, D.arr Sh.one (seg b 0 128)]]) 0 (List.length (seg ws 0 (Int.toNat (↑(List.length ws) : Int) - 0)) + 1))), .dat (.int .i64 (burns_v1 f)), .dat (.bool (burns_v2 f u))] }, { sh := Sh.arr (Sh.arr Sh.one 128) 0, dyn := true, frz := false, v := .dat (.arr (Sh.arr Sh.one 128) sf) }])) else none) else none) else none) else none) else none) else none) else none) else none) else none))) := by kernel_rfl
theorem write_case0 (m k : Nat) (ws sf b : List D) (f n : Int) (u : Bool) : runF (envOf tab SpC [] [] [(7, 0, [.frzAt 0 [1]]), (777777, 29, [.cut 0])]) false Try.f11 [dP, .dat (.int .i64 n), .dat (.slc .one b)] [dB m k ws f u, sB sf] = FunT.run C_write [dP, .dat (.int .i64 n), .dat (.slc .one b)] [dB m k ws f u, sB sf] := (write_raw0 m k ws sf b f n u).trans (by
  show _ = (cond (able_v0 k n u != 0 || ((↑(List.length b) : Int) != 128 || clip_pre ws && (decide (128 ≤ List.length b) && (Sh.eqb (Sh.arr Sh.one 128) (Sh.arr Sh.one (List.length (seg b 0 128))) && (fits (s67) [D.agg [D.int .i64 n, D.arr Sh.one (seg b 0 128)]] && (D.eqb (D.slc (s67) ws) (D.slc (s67) ws) && (decide ((List.length (seg ws 0 (Int.toNat (↑(List.length ws) : Int) - 0)) + 1) * 136 ≤ 35184372088832) && Nat.beq (List.length (seg ws 0 (Int.toNat (↑(List.length ws) : Int) - 0) ++ [D.agg [D.int .i64 n, D.arr Sh.one (seg b 0 128)]])) (List.length (seg ws 0 (Int.toNat (↑(List.length ws) : Int) - 0)) + 1)))))))) (some (([.dat (.int .i64 (bif able_v0 k n u != 0 then able_v0 k n u else bif (↑(List.length b) : Int) != 128 then 1 else bif burns_v0 f then 15 else 0))], [{ sh := s61, dyn := false, frz := false, v := AV.agg [AV.sref (Sh.arr Sh.one 128) 1 m [] 0 k, .dat (.slc (s67) (bif able_v0 k n u != 0 then ws else bif (↑(List.length b) : Int) != 128 then ws else seg (seg ws 0 (Int.toNat (↑(List.length ws) : Int) - 0) ++ [D.agg [D.int .i64 n, D.arr Sh.one (seg b 0 128)]]) 0 (List.length (seg ws 0 (Int.toNat (↑(List.length ws) : Int) - 0)) + 1))), .dat (.int .i64 (bif able_v0 k n u != 0 then f else bif (↑(List.length b) : Int) != 128 then f else burns_v1 f)), .dat (.bool (bif able_v0 k n u != 0 then u else bif (↑(List.length b) : Int) != 128 then u else burns_v2 f u))] }, { sh := Sh.arr (Sh.arr Sh.one 128) 0, dyn := true, frz := false, v := .dat (.arr (Sh.arr Sh.one 128) sf) }]) : Res)) none)
  generalize (decide ((List.length (seg ws 0 (Int.toNat (↑(List.length ws) : Int) - 0)) + 1) * 136 ≤ 35184372088832)) = z0
  generalize (Nat.beq (List.length (seg ws 0 (Int.toNat (↑(List.length ws) : Int) - 0) ++ [D.agg [D.int .i64 n, D.arr Sh.one (seg b 0 128)]])) (List.length (seg ws 0 (Int.toNat (↑(List.length ws) : Int) - 0)) + 1)) = z1
  generalize (fits (s67) [D.agg [D.int .i64 n, D.arr Sh.one (seg b 0 128)]]) = z2
  generalize (D.eqb (D.slc (s67) ws) (D.slc (s67) ws)) = z3
  generalize (Sh.eqb (Sh.arr Sh.one 128) (Sh.arr Sh.one (List.length (seg b 0 128)))) = z4
  generalize (decide (128 ≤ List.length b)) = z5
  generalize ((↑(List.length b) : Int) != 128) = z6
  generalize (able_v0 k n u != 0) = z7
  generalize (clip_pre ws) = z8
  generalize (burns_v0 f) = z9
  cases z7 with
  | true =>
   rfl
  | false =>
   cases z6 with
   | true =>
    rfl
   | false =>
    cases z8 with
    | true =>
     cases z5 with
     | true =>
      cases z4 with
      | true =>
       cases z2 with
       | true =>
        cases z3 with
        | true =>
         cases z0 with
         | true =>
          cases z1 with
          | true =>
           cases z9 with
           | true =>
            rfl
           | false =>
            rfl
          | false =>
           rfl
         | false =>
          rfl
        | false =>
         rfl
       | false =>
        rfl
      | false =>
       rfl
     | false =>
      rfl
    | false =>
     rfl
  )
theorem cwrite_ok : FunOk Try.prog 11 (FunT.run C_write) := by
  refine fun_ok (E := envOf tab SpC [] [] [(7, 0, [.frzAt 0 [1]]), (777777, 29, [.cut 0])]) (fz := false) (fn := Try.f11) (envOf_ok progOk SpC_ok) (by kernel_rfl) (by kernel_rfl) (loops_none (by kernel_rfl)) ?_
  intro args σ r h
  unfold C_write at h
  split at h
  · exact (write_case0 _ _ _ _ _ _ _ _).trans h
  · simp [T.run_fail] at h
end Go.Proofs.Ythhipekbkodjoaa
