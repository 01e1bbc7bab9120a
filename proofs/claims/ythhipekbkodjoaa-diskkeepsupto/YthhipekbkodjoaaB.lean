/- Seat 07: what a sector has now. -/
import Derived.Test.YthhipekbkodjoaaA
namespace Go.Proofs.Ythhipekbkodjoaa
open Go.AX
set_option maxRecDepth 100000
abbrev iB (n : Int) : Blk := ⟨.one, false, false, .dat (.int .i64 n)⟩
abbrev rB (d : D) : Blk := ⟨.arr .one 128, false, false, .dat d⟩
abbrev wB (ws : List D) : Blk := ⟨.one, false, false, .dat (.slc (.agg [.one, .arr .one 128]) ws)⟩
abbrev SpB : Specs := [(36, C_bw)]
theorem SpB_ok : SpecsOk Try.prog SpB := .cons cbw_ok (.nil _)
abbrev nowS : List (Nat × AV) := [(0, dP), (3, .ptr .one 2 0 []), (4, .ptr (.arr .one 128) 3 0 []), (11, .fn (.func 37) [] [.ptr .one 4 0 []])]
def Y_nw : FunT := fun args σ => match args, σ with
  | [AV.dat (D.int IntKind.i64 _), AV.dat (D.agg [D.int IntKind.i64 a, D.arr Sh.one bs])], [{ sh := Sh.agg [Sh.one, Sh.one, Sh.one, Sh.one], dyn := false, frz := false, v := AV.agg [AV.sref (Sh.arr Sh.one 128) 1 m [] 0 k, AV.dat (D.slc (Sh.agg [Sh.one, Sh.arr Sh.one 128]) ws), AV.dat (D.int IntKind.i64 f), AV.dat (D.bool u)] }, { sh := Sh.arr (Sh.arr Sh.one 128) 0, dyn := true, frz := false, v := AV.dat (D.arr (Sh.arr Sh.one 128) sf) }, { sh := Sh.one, dyn := false, frz := false, v := AV.dat (D.int IntKind.i64 n) }, { sh := Sh.arr Sh.one 128, dyn := false, frz := false, v := AV.dat d }, { sh := Sh.one, dyn := false, frz := false, v := AV.dat (D.slc (Sh.agg [Sh.one, Sh.arr Sh.one 128]) ws2) }, { sh := Sh.arr (Sh.agg []) 1, dyn := false, frz := false, v := AV.dat (D.int IntKind.i64 0) }] =>
    .br (Sh.eqb (s67) (Sh.agg [Sh.one, Sh.arr Sh.one (List.length bs)]) && (!a == n || Sh.eqb (D.shape d) (Sh.arr Sh.one (List.length bs)))) (
     .br (a == n) (.leaf ([.dat (.bool false)], [{ sh := s61, dyn := false, frz := false, v := AV.agg [AV.sref (Sh.arr Sh.one 128) 1 m [] 0 k, .dat (.slc (s67) ws), .dat (.int .i64 f), .dat (.bool u)] }, { sh := Sh.arr (Sh.arr Sh.one 128) 0, dyn := true, frz := false, v := .dat (.arr (Sh.arr Sh.one 128) sf) }, { sh := Sh.one, dyn := false, frz := false, v := .dat (.int .i64 n) }, { sh := Sh.arr Sh.one 128, dyn := false, frz := false, v := .dat (.arr Sh.one bs) }, { sh := Sh.one, dyn := false, frz := false, v := .dat (.slc (s67) ws2) }, { sh := Sh.arr (Sh.agg []) 1, dyn := false, frz := false, v := .dat (.int .i64 1) }])) (.leaf ([.dat (.bool true)], [{ sh := s61, dyn := false, frz := false, v := AV.agg [AV.sref (Sh.arr Sh.one 128) 1 m [] 0 k, .dat (.slc (s67) ws), .dat (.int .i64 f), .dat (.bool u)] }, { sh := Sh.arr (Sh.arr Sh.one 128) 0, dyn := true, frz := false, v := .dat (.arr (Sh.arr Sh.one 128) sf) }, { sh := Sh.one, dyn := false, frz := false, v := .dat (.int .i64 n) }, { sh := Sh.arr Sh.one 128, dyn := false, frz := false, v := AV.dat d }, { sh := Sh.one, dyn := false, frz := false, v := .dat (.slc (s67) ws2) }, { sh := Sh.arr (Sh.agg []) 1, dyn := false, frz := false, v := .dat (.int .i64 0) }]))) (.fail)
  | _, _ => .fail
theorem nw_raw0 (m k : Nat) (ws sf bs ws2 : List D) (f n i a : Int) (u : Bool) (d : D) : rndRun (envOf tab SpB [] [] []) (rngPs (loopAt Try.f33 0).2.1) (rngA (loopAt Try.f33 0).2.1) (rngB (loopAt Try.f33 0).2.1) (5) (mkF 27 nowS) [.dat (.int .i64 i), .dat (.agg [.int .i64 a, .arr .one bs])] [dB m k ws f u, sB sf, iB n, rB d, wB ws2, ghost 0] =
  (bif Sh.eqb (s67) (Sh.agg [Sh.one, Sh.arr Sh.one (List.length bs)]) then
   (bif a == n then
    (bif Sh.eqb (D.shape d) (Sh.arr Sh.one (List.length bs)) then some ([.dat (.bool false)], [{ sh := s61, dyn := false, frz := false, v := AV.agg [AV.sref (Sh.arr Sh.one 128) 1 m [] 0 k, .dat (.slc (s67) ws), .dat (.int .i64 f), .dat (.bool u)] }, { sh := Sh.arr (Sh.arr Sh.one 128) 0, dyn := true, frz := false, v := .dat (.arr (Sh.arr Sh.one 128) sf) }, { sh := Sh.one, dyn := false, frz := false, v := .dat (.int .i64 n) }, { sh := Sh.arr Sh.one 128, dyn := false, frz := false, v := .dat (.arr Sh.one bs) }, { sh := Sh.one, dyn := false, frz := false, v := .dat (.slc (s67) ws2) }, { sh := Sh.arr (Sh.agg []) 1, dyn := false, frz := false, v := .dat (.int .i64 1) }]) else none) else some ([.dat (.bool true)], [{ sh := s61, dyn := false, frz := false, v := AV.agg [AV.sref (Sh.arr Sh.one 128) 1 m [] 0 k, .dat (.slc (s67) ws), .dat (.int .i64 f), .dat (.bool u)] }, { sh := Sh.arr (Sh.arr Sh.one 128) 0, dyn := true, frz := false, v := .dat (.arr (Sh.arr Sh.one 128) sf) }, { sh := Sh.one, dyn := false, frz := false, v := .dat (.int .i64 n) }, { sh := Sh.arr Sh.one 128, dyn := false, frz := false, v := AV.dat d }, { sh := Sh.one, dyn := false, frz := false, v := .dat (.slc (s67) ws2) }, { sh := Sh.arr (Sh.agg []) 1, dyn := false, frz := false, v := .dat (.int .i64 0) }])) else none) := by kernel_rfl
theorem nw_case0 (m k : Nat) (ws sf bs ws2 : List D) (f n i a : Int) (u : Bool) (d : D) : rndRun (envOf tab SpB [] [] []) (rngPs (loopAt Try.f33 0).2.1) (rngA (loopAt Try.f33 0).2.1) (rngB (loopAt Try.f33 0).2.1) (5) (mkF 27 nowS) [.dat (.int .i64 i), .dat (.agg [.int .i64 a, .arr .one bs])] [dB m k ws f u, sB sf, iB n, rB d, wB ws2, ghost 0] = FunT.run (Y_nw) [.dat (.int .i64 i), .dat (.agg [.int .i64 a, .arr .one bs])] [dB m k ws f u, sB sf, iB n, rB d, wB ws2, ghost 0] := (nw_raw0 m k ws sf bs ws2 f n i a u d).trans (by
  show _ = (cond (Sh.eqb (s67) (Sh.agg [Sh.one, Sh.arr Sh.one (List.length bs)]) && (!a == n || Sh.eqb (D.shape d) (Sh.arr Sh.one (List.length bs)))) (cond (a == n) (some (([.dat (.bool false)], [{ sh := s61, dyn := false, frz := false, v := AV.agg [AV.sref (Sh.arr Sh.one 128) 1 m [] 0 k, .dat (.slc (s67) ws), .dat (.int .i64 f), .dat (.bool u)] }, { sh := Sh.arr (Sh.arr Sh.one 128) 0, dyn := true, frz := false, v := .dat (.arr (Sh.arr Sh.one 128) sf) }, { sh := Sh.one, dyn := false, frz := false, v := .dat (.int .i64 n) }, { sh := Sh.arr Sh.one 128, dyn := false, frz := false, v := .dat (.arr Sh.one bs) }, { sh := Sh.one, dyn := false, frz := false, v := .dat (.slc (s67) ws2) }, { sh := Sh.arr (Sh.agg []) 1, dyn := false, frz := false, v := .dat (.int .i64 1) }]) : Res)) (some (([.dat (.bool true)], [{ sh := s61, dyn := false, frz := false, v := AV.agg [AV.sref (Sh.arr Sh.one 128) 1 m [] 0 k, .dat (.slc (s67) ws), .dat (.int .i64 f), .dat (.bool u)] }, { sh := Sh.arr (Sh.arr Sh.one 128) 0, dyn := true, frz := false, v := .dat (.arr (Sh.arr Sh.one 128) sf) }, { sh := Sh.one, dyn := false, frz := false, v := .dat (.int .i64 n) }, { sh := Sh.arr Sh.one 128, dyn := false, frz := false, v := AV.dat d }, { sh := Sh.one, dyn := false, frz := false, v := .dat (.slc (s67) ws2) }, { sh := Sh.arr (Sh.agg []) 1, dyn := false, frz := false, v := .dat (.int .i64 0) }]) : Res))) none)
  generalize (Sh.eqb (s67) (Sh.agg [Sh.one, Sh.arr Sh.one (List.length bs)])) = z0
  generalize (Sh.eqb (D.shape d) (Sh.arr Sh.one (List.length bs))) = z1
  generalize (a == n) = z2
  cases z0 with
  | true =>
   cases z2 with
   | true =>
    cases z1 with
    | true =>
     rfl
    | false =>
     rfl
   | false =>
    rfl
  | false =>
   rfl
  )
theorem nw_Y : ∀ row σ q, (Y_nw row σ).run = some q → rndRun (envOf tab SpB [] [] []) (rngPs (loopAt Try.f33 0).2.1) (rngA (loopAt Try.f33 0).2.1) (rngB (loopAt Try.f33 0).2.1) (5) (mkF 27 nowS) row σ = some q := by
  intro row σ q h
  unfold Y_nw at h
  split at h
  · exact (nw_case0 _ _ _ _ _ _ _ _ _ _ _ _).trans h
  · simp [T.run_fail] at h
def bl_fr (_m _k : Nat) (_ws _sf _ws2 : List D) (_f _n : Int) (_u : Bool) (_d : D) : Int → Frame' := fun i => mkF 19 [(0, .hnd loopSh 5), (1, .ptr .one 4 0 []), (3, .dat (.int .i64 i))]
def bl_st (m k : Nat) (ws sf ws2 : List D) (f n : Int) (u : Bool) (d : D) : Int → Store := fun _ => [dB m k ws f u, sB sf, iB n, rB d, wB ws2, ghost 0]
def bl_step (m k : Nat) (ws sf ws2 : List D) (f n : Int) (u : Bool) (d : D) : Int → T (Int ⊕ LOut) := fun i =>
  .chk (!decide (0 ≤ i) || decide (Int.toNat i < List.length ws2) && (okE (Ek.agg [Ek.int IntKind.i64, Ek.arr Sh.one]) (nthD ws2 (Int.toNat i)) && (Sh.eqb (s67) (Sh.agg [Sh.one, Sh.arr Sh.one (List.length (D.getL (nthD (D.getL (nthD ws2 (Int.toNat i))) 1)))]) && (!D.getI (nthD (D.getL (nthD ws2 (Int.toNat i))) 0) == n || Sh.eqb (D.shape d) (Sh.arr Sh.one (List.length (D.getL (nthD (D.getL (nthD ws2 (Int.toNat i))) 1)))))))) (
   .br (!decide (0 ≤ i)) (.leaf (.inr ((some 0), mkF 19 [], [{ sh := s61, dyn := false, frz := false, v := AV.agg [AV.sref (Sh.arr Sh.one 128) 1 m [] 0 k, .dat (.slc (s67) ws), .dat (.int .i64 f), .dat (.bool u)] }, { sh := Sh.arr (Sh.arr Sh.one 128) 0, dyn := true, frz := false, v := .dat (.arr (Sh.arr Sh.one 128) sf) }, { sh := Sh.one, dyn := false, frz := false, v := .dat (.int .i64 n) }, { sh := Sh.arr Sh.one 128, dyn := false, frz := false, v := AV.dat d }, { sh := Sh.one, dyn := false, frz := false, v := .dat (.slc (s67) ws2) }, { sh := Sh.arr (Sh.agg []) 1, dyn := false, frz := false, v := .dat (.int .i64 0) }]))) (
    .br (decide (0 ≤ i) && D.getI (nthD (D.getL (nthD ws2 (Int.toNat i))) 0) == n) (.leaf (.inr (none, mkF 19 [], [{ sh := s61, dyn := false, frz := false, v := AV.agg [AV.sref (Sh.arr Sh.one 128) 1 m [] 0 k, .dat (.slc (s67) ws), .dat (.int .i64 f), .dat (.bool u)] }, { sh := Sh.arr (Sh.arr Sh.one 128) 0, dyn := true, frz := false, v := .dat (.arr (Sh.arr Sh.one 128) sf) }, { sh := Sh.one, dyn := false, frz := false, v := .dat (.int .i64 n) }, { sh := Sh.arr Sh.one 128, dyn := false, frz := false, v := .dat (.arr Sh.one (D.getL (nthD (D.getL (nthD ws2 (Int.toNat i))) 1))) }, { sh := Sh.one, dyn := false, frz := false, v := .dat (.slc (s67) ws2) }, { sh := Sh.arr (Sh.agg []) 1, dyn := false, frz := false, v := .dat (.int .i64 1) }]))) (.leaf (.inl (IntKind.wrap IntKind.i64 (i - 1))))))
theorem bl_round (lp : Loops) (m k : Nat) (ws sf ws2 : List D) (f n : Int) (u : Bool) (d : D) (i : Int) (K : Kt) : oneRound (Env.gen (envOf tab SpB [] [] []) 5 Y_nw (Loops.get lp) (Hints.get [])) Try.f37 0 (6) (mkF 19 [(0, .hnd loopSh 5), (1, .ptr .one 4 0 []), (3, .dat (.int .i64 i))]) ([dB m k ws f u, sB sf, iB n, rB d, wB ws2, ghost 0]) K =
  (bif decide (i ≥ 0) then
   (bif decide (0 ≤ i) then
    (bif decide (Int.toNat i < List.length ws2) then
     (bif okE (Ek.agg [Ek.int IntKind.i64, Ek.arr Sh.one]) (nthD ws2 (Int.toNat i)) then
      (bif Sh.eqb (s67) (Sh.agg [Sh.one, Sh.arr Sh.one (List.length (D.getL (nthD (D.getL (nthD ws2 (Int.toNat i))) 1)))]) && (!D.getI (nthD (D.getL (nthD ws2 (Int.toNat i))) 0) == n || Sh.eqb (D.shape d) (Sh.arr Sh.one (List.length (D.getL (nthD (D.getL (nthD ws2 (Int.toNat i))) 1))))) then
       (bif D.getI (nthD (D.getL (nthD ws2 (Int.toNat i))) 0) == n then K (Exit.ret) (mkF 19 []) ([{ sh := s61, dyn := false, frz := false, v := AV.agg [AV.sref (Sh.arr Sh.one 128) 1 m [] 0 k, .dat (.slc (s67) ws), .dat (.int .i64 f), .dat (.bool u)] }, { sh := Sh.arr (Sh.arr Sh.one 128) 0, dyn := true, frz := false, v := .dat (.arr (Sh.arr Sh.one 128) sf) }, { sh := Sh.one, dyn := false, frz := false, v := .dat (.int .i64 n) }, { sh := Sh.arr Sh.one 128, dyn := false, frz := false, v := .dat (.arr Sh.one (D.getL (nthD (D.getL (nthD ws2 (Int.toNat i))) 1))) }, { sh := Sh.one, dyn := false, frz := false, v := .dat (.slc (s67) ws2) }, { sh := Sh.arr (Sh.agg []) 1, dyn := false, frz := false, v := .dat (.int .i64 1) }]) else K (Exit.normal) (mkF 19 [(0, AV.hnd (Sh.arr (Sh.agg []) 1) 5), (1, AV.ptr Sh.one 4 0 []), (3, .dat (.int .i64 (IntKind.wrap IntKind.i64 (i - 1)))), (9, .dat (.int .i64 i)), (10, .dat (.int .i64 (IntKind.wrap IntKind.i64 (i - 1))))]) ([{ sh := s61, dyn := false, frz := false, v := AV.agg [AV.sref (Sh.arr Sh.one 128) 1 m [] 0 k, .dat (.slc (s67) ws), .dat (.int .i64 f), .dat (.bool u)] }, { sh := Sh.arr (Sh.arr Sh.one 128) 0, dyn := true, frz := false, v := .dat (.arr (Sh.arr Sh.one 128) sf) }, { sh := Sh.one, dyn := false, frz := false, v := .dat (.int .i64 n) }, { sh := Sh.arr Sh.one 128, dyn := false, frz := false, v := AV.dat d }, { sh := Sh.one, dyn := false, frz := false, v := .dat (.slc (s67) ws2) }, { sh := Sh.arr (Sh.agg []) 1, dyn := false, frz := false, v := .dat (.int .i64 0) }])) else none) else none) else none) else none) else K (Exit.exit 0) (mkF 19 []) ([{ sh := s61, dyn := false, frz := false, v := AV.agg [AV.sref (Sh.arr Sh.one 128) 1 m [] 0 k, .dat (.slc (s67) ws), .dat (.int .i64 f), .dat (.bool u)] }, { sh := Sh.arr (Sh.arr Sh.one 128) 0, dyn := true, frz := false, v := .dat (.arr (Sh.arr Sh.one 128) sf) }, { sh := Sh.one, dyn := false, frz := false, v := .dat (.int .i64 n) }, { sh := Sh.arr Sh.one 128, dyn := false, frz := false, v := AV.dat d }, { sh := Sh.one, dyn := false, frz := false, v := .dat (.slc (s67) ws2) }, { sh := Sh.arr (Sh.agg []) 1, dyn := false, frz := false, v := .dat (.int .i64 0) }])) := by kernel_rfl
theorem bl_hr (lp : Loops) (m k : Nat) (ws sf ws2 : List D) (f n : Int) (u : Bool) (d : D) : ∀ (sA : Int) (K : Kt) (N : Int → Option Res), (∀ sB fr' σ', cleanF (liveAt Try.f37 0) 0 fr' = bl_fr m k ws sf ws2 f n u d sB → trim (6) (bl_fr m k ws sf ws2 f n u d sB) σ' = bl_st m k ws sf ws2 f n u d sB → K .normal fr' σ' = N sB) →
    oneRound (Env.gen (envOf tab SpB [] [] []) 5 Y_nw (Loops.get lp) (Hints.get [])) Try.f37 0 (6) (bl_fr m k ws sf ws2 f n u d sA) (bl_st m k ws sf ws2 f n u d sA) K = (bl_step m k ws sf ws2 f n u d sA).k (LK K N) := by
  intro i K N hN
  refine (bl_round lp m k ws sf ws2 f n u d i K).trans ?_
  show _ = T.k ((
  .chk (!decide (0 ≤ i) || decide (Int.toNat i < List.length ws2) && (okE (Ek.agg [Ek.int IntKind.i64, Ek.arr Sh.one]) (nthD ws2 (Int.toNat i)) && (Sh.eqb (s67) (Sh.agg [Sh.one, Sh.arr Sh.one (List.length (D.getL (nthD (D.getL (nthD ws2 (Int.toNat i))) 1)))]) && (!D.getI (nthD (D.getL (nthD ws2 (Int.toNat i))) 0) == n || Sh.eqb (D.shape d) (Sh.arr Sh.one (List.length (D.getL (nthD (D.getL (nthD ws2 (Int.toNat i))) 1)))))))) (
   .br (!decide (0 ≤ i)) (.leaf (.inr ((some 0), mkF 19 [], [{ sh := s61, dyn := false, frz := false, v := AV.agg [AV.sref (Sh.arr Sh.one 128) 1 m [] 0 k, .dat (.slc (s67) ws), .dat (.int .i64 f), .dat (.bool u)] }, { sh := Sh.arr (Sh.arr Sh.one 128) 0, dyn := true, frz := false, v := .dat (.arr (Sh.arr Sh.one 128) sf) }, { sh := Sh.one, dyn := false, frz := false, v := .dat (.int .i64 n) }, { sh := Sh.arr Sh.one 128, dyn := false, frz := false, v := AV.dat d }, { sh := Sh.one, dyn := false, frz := false, v := .dat (.slc (s67) ws2) }, { sh := Sh.arr (Sh.agg []) 1, dyn := false, frz := false, v := .dat (.int .i64 0) }]))) (
    .br (decide (0 ≤ i) && D.getI (nthD (D.getL (nthD ws2 (Int.toNat i))) 0) == n) (.leaf (.inr (none, mkF 19 [], [{ sh := s61, dyn := false, frz := false, v := AV.agg [AV.sref (Sh.arr Sh.one 128) 1 m [] 0 k, .dat (.slc (s67) ws), .dat (.int .i64 f), .dat (.bool u)] }, { sh := Sh.arr (Sh.arr Sh.one 128) 0, dyn := true, frz := false, v := .dat (.arr (Sh.arr Sh.one 128) sf) }, { sh := Sh.one, dyn := false, frz := false, v := .dat (.int .i64 n) }, { sh := Sh.arr Sh.one 128, dyn := false, frz := false, v := .dat (.arr Sh.one (D.getL (nthD (D.getL (nthD ws2 (Int.toNat i))) 1))) }, { sh := Sh.one, dyn := false, frz := false, v := .dat (.slc (s67) ws2) }, { sh := Sh.arr (Sh.agg []) 1, dyn := false, frz := false, v := .dat (.int .i64 1) }]))) (.leaf (.inl (IntKind.wrap IntKind.i64 (i - 1))))))) : T (Int ⊕ LOut)) (LK K N)
  generalize (Sh.eqb (s67) (Sh.agg [Sh.one, Sh.arr Sh.one (List.length (D.getL (nthD (D.getL (nthD ws2 (Int.toNat i))) 1)))]) && (!D.getI (nthD (D.getL (nthD ws2 (Int.toNat i))) 0) == n || Sh.eqb (D.shape d) (Sh.arr Sh.one (List.length (D.getL (nthD (D.getL (nthD ws2 (Int.toNat i))) 1)))))) = z0
  generalize (D.getI (nthD (D.getL (nthD ws2 (Int.toNat i))) 0) == n) = z1
  generalize (decide (0 ≤ i)) = z2
  generalize (okE (Ek.agg [Ek.int IntKind.i64, Ek.arr Sh.one]) (nthD ws2 (Int.toNat i))) = z3
  generalize (decide (Int.toNat i < List.length ws2)) = z4
  cases z2 with
  | true =>
   cases z4 with
   | true =>
    cases z3 with
    | true =>
     cases z0 with
     | true =>
      cases z1 with
      | true =>
       rfl
      | false =>
       exact hN _ _ _ (by kernel_rfl) (by kernel_rfl)
     | false =>
      rfl
    | false =>
     rfl
   | false =>
    rfl
  | false =>
   rfl
theorem bl_enter (m k : Nat) (ws sf ws2 : List D) (f n : Int) (u : Bool) (d : D) (i : Int) (fr : Frame') (hl : Nat.beq fr.length 19 = true) (g0 : fr.getD 0 .undef = AV.hnd (Sh.arr (Sh.agg []) 1) 5) (g1 : fr.getD 1 .undef = AV.ptr Sh.one 4 0 []) (g3 : fr.getD 3 .undef = .dat (.int .i64 i)) : cleanF (liveAt Try.f37 0) 0 fr = bl_fr m k ws sf ws2 f n u d i := by
  have e : liveAt Try.f37 0 = [0, 1, 3] := by kernel_rfl
  rw [clean_mk (Nat.eq_of_beq_eq_true hl), e]
  show mkF 19 [(0, fr.getD 0 .undef), (1, fr.getD 1 .undef), (3, fr.getD 3 .undef)] = _
  rw [g0, g1, g3]
  kernel_rfl
def lastP (p : Nat → Bool) : Nat → Option Nat
  | 0 => none
  | n + 1 => bif p n then some n else lastP p n
theorem iter_down {step : Int → T (Int ⊕ LOut)} {n : Nat} (p : Nat → Bool) (o : Nat → LOut) (o' : LOut)
    (h : ∀ i : Nat, i < n → (step (i : Int)).run = some (bif p i then .inr (o i) else .inl ((i : Int) - 1)))
    (h' : (step (-1)).run = some (.inr o')) : ∃ k, (iterT step k ((n : Int) - 1)).run = some (match lastP p n with | some i => o i | none => o') := by
  have key : ∀ j, j ≤ n → (iterT step (j + 1) ((j : Int) - 1)).run = some (match lastP p j with | some i => o i | none => o') := by
    intro j
    induction j with
    | zero => intro _; exact iter_out h'
    | succ j ih =>
      intro hj
      have hs := h j (by omega)
      have e : (((j + 1 : Nat) : Int) - 1) = (j : Int) := by omega
      rw [e]
      unfold lastP
      cases hp : p j with
      | true => rw [hp] at hs; exact iter_out hs
      | false => rw [hp] at hs; exact iter_next hs (ih (by omega))
  exact ⟨n + 1, key n (Nat.le_refl n)⟩
abbrev wAt (w : D) : Int := D.getI (nthD (D.getL w) 0)
abbrev wWas (w : D) : List D := D.getL (nthD (D.getL w) 1)
abbrev okW (w : D) : Bool := okE k67 w && ((wWas w).length == 128)
abbrev okWs (ws : List D) : Bool := ws.all okW && decide (ws.length ≤ 1099511627776)
abbrev is128 (d : D) : Bool := Sh.eqb (D.shape d) (.arr .one 128)
def hasW (ws : List D) (n : Int) : Bool := (lastP (fun j => wAt (nthD ws j) == n) ws.length).isSome
def nowW (ws : List D) (n : Int) : List D := wWas (nthD ws ((lastP (fun j => wAt (nthD ws j) == n) ws.length).getD 0))
theorem okWs_nth {ws : List D} (h : ws.all okW = true) {i : Nat} (hi : i < ws.length) : okE k67 (nthD ws i) = true ∧ (wWas (nthD ws i)).length = 128 := by
  have := List.all_eq_true.1 h _ (nthD_mem hi)
  simpa only [okW, Bool.and_eq_true, beq_iff_eq] using this
theorem bl_closed (m k : Nat) (ws sf ws2 : List D) (f n : Int) (u : Bool) (d : D) (n2 : Int) (hc : (decide (n2 = (ws2.length : Int) - 1) && (okWs ws2 && is128 d)) = true) :
    ∃ z, (iterT (bl_step m k ws sf ws2 f n u d) z n2).run = T.run (.br (hasW ws2 n) (.leaf (none, mkF 19 [], [dB m k ws f u, sB sf, iB n, rB (.arr .one (nowW ws2 n)), wB ws2, ghost 1])) (.leaf (some 0, mkF 19 [], [dB m k ws f u, sB sf, iB n, rB d, wB ws2, ghost 0]))) := by
  simp only [Bool.and_eq_true, decide_eq_true_eq, okWs] at hc
  obtain ⟨rfl, ⟨h1, h2⟩, h3⟩ := hc
  obtain ⟨z, hz⟩ := iter_down (step := bl_step m k ws sf ws2 f n u d) (n := ws2.length) (fun j => wAt (nthD ws2 j) == n) (fun i => (none, mkF 19 [], [dB m k ws f u, sB sf, iB n, rB (.arr .one (wWas (nthD ws2 i))), wB ws2, ghost 1])) (some 0, mkF 19 [], [dB m k ws f u, sB sf, iB n, rB d, wB ws2, ghost 0]) (fun i hi => by
    obtain ⟨ha, hb⟩ := okWs_nth h1 hi
    have hw : IntKind.wrap .i64 ((i : Int) - 1) = (i : Int) - 1 := by rw [IntKind.wrap_i64]; omega
    have h4 : Sh.eqb s67 (.agg [.one, .arr .one (wWas (nthD ws2 i)).length]) = true := by rw [hb]; rfl
    have h5 : Sh.eqb (D.shape d) (.arr .one (wWas (nthD ws2 i)).length) = true := by rw [hb]; exact h3
    unfold bl_step
    simp only [decide_eq_true (show (0 : Int) ≤ (i : Int) by omega), Int.toNat_natCast, decide_eq_true hi, ha, h4, h5, hw, Bool.not_true, Bool.or_true, Bool.true_and, T.run_br, T.run_chk, T.run_leaf, cond_true, cond_false]
    exact bif_some _ _ _) (by
    unfold bl_step
    simp only [decide_eq_false (show ¬ (0 : Int) ≤ -1 by omega)]
    rfl)
  refine ⟨z, hz.trans ?_⟩
  show _ = cond (hasW ws2 n) (some _) (some _)
  unfold hasW nowW
  cases lastP (fun j => wAt (nthD ws2 j) == n) ws2.length <;> rfl
def L_bl : Frame' → Store → T (Exit × Frame' × Store) := fun fr σ => match fr.getD 0 .undef, fr.getD 1 .undef, fr.getD 3 .undef, σ with
  | AV.hnd (Sh.arr (Sh.agg []) 1) 5, AV.ptr Sh.one 4 0 [], AV.dat (D.int IntKind.i64 n2), [{ sh := Sh.agg [Sh.one, Sh.one, Sh.one, Sh.one], dyn := false, frz := false, v := AV.agg [AV.sref (Sh.arr Sh.one 128) 1 m [] 0 k, AV.dat (D.slc (Sh.agg [Sh.one, Sh.arr Sh.one 128]) ws), AV.dat (D.int IntKind.i64 f), AV.dat (D.bool u)] }, { sh := Sh.arr (Sh.arr Sh.one 128) 0, dyn := true, frz := false, v := AV.dat (D.arr (Sh.arr Sh.one 128) sf) }, { sh := Sh.one, dyn := false, frz := false, v := AV.dat (D.int IntKind.i64 n) }, { sh := Sh.arr Sh.one 128, dyn := false, frz := false, v := AV.dat d }, { sh := Sh.one, dyn := false, frz := false, v := AV.dat (D.slc (Sh.agg [Sh.one, Sh.arr Sh.one 128]) ws2) }, { sh := Sh.arr (Sh.agg []) 1, dyn := false, frz := false, v := AV.dat (D.int IntKind.i64 0) }] => .chk (Nat.beq fr.length 19 && (decide (n2 = (ws2.length : Int) - 1) && (okWs ws2 && is128 d))) (T.bind (.br (hasW ws2 n) (.leaf (none, mkF 19 [], [dB m k ws f u, sB sf, iB n, rB (.arr .one (nowW ws2 n)), wB ws2, ghost 1])) (.leaf (some 0, mkF 19 [], [dB m k ws f u, sB sf, iB n, rB d, wB ws2, ghost 0]))) fun o => .leaf (outEx o.1, o.2.1, o.2.2))
  | _, _, _, _ => .fail
theorem bl_sem (lp : Loops) : ∀ fr σ p, (L_bl fr σ).run = some p → ∀ (K : Kt) r, K p.1 p.2.1 p.2.2 = some r → ∃ n, loopRun (Env.gen (envOf tab SpB [] [] []) 5 Y_nw (Loops.get lp) (Hints.get [])) Try.f37 0 σ.length n (cleanF (liveAt Try.f37 0) 0 fr) σ K = some r := by
  intro fr σ p h K r hK
  unfold L_bl at h
  split at h
  · rename_i n2 m k ws f u sf n d ws2 g0 g1 g3
    obtain ⟨hc, h'⟩ := T.chk_some h
    rw [Bool.and_eq_true] at hc
    obtain ⟨hl, hc⟩ := hc
    obtain ⟨o, ho, h'⟩ := T.bind_some h'
    have hp := T.leaf_some h'
    subst hp
    obtain ⟨nF, hn⟩ : ∃ nF, (iterT (bl_step m k ws sf ws2 f n u d) nF (n2)).run = T.run (.br (hasW ws2 n) (.leaf (none, mkF 19 [], [dB m k ws f u, sB sf, iB n, rB (.arr .one (nowW ws2 n)), wB ws2, ghost 1])) (.leaf (some 0, mkF 19 [], [dB m k ws f u, sB sf, iB n, rB d, wB ws2, ghost 0]))) := bl_closed m k ws sf ws2 f n u d n2 hc
    rw [ho] at hn
    refine ⟨nF, ?_⟩
    have he : cleanF (liveAt Try.f37 0) 0 fr = bl_fr m k ws sf ws2 f n u d (n2) := bl_enter m k ws sf ws2 f n u d _ fr hl g0 g1 g3
    refine (iter_ok (base := 6) (bl_hr lp m k ws sf ws2 f n u d) K nF (n2) _ _ (by rw [clean_clean]; exact he) (by kernel_rfl)).trans ?_
    rw [T.k_run hn]
    exact hK
  · simp [T.run_fail] at h
theorem bl_loopOk {k : Nat} (lp : Loops) (hk : Loops.get lp 1 = some L_bl) : LoopOkN Try.prog k (Env.gen (envOf tab SpB [] [] []) 5 Y_nw (Loops.get lp) (Hints.get [])) (loopAt Try.f37 0).1 (loopAt Try.f37 0).2 := loop_okN (L := L_bl) (by kernel_rfl) hk (bl_sem lp)
end Go.Proofs.Ythhipekbkodjoaa
