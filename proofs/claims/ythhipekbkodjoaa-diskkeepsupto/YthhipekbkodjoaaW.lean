/- Seat 07: DiskKeeps' loops. -/
import Derived.Test.YthhipekbkodjoaaU
namespace Go.Proofs.Ythhipekbkodjoaa
open Go.AX
set_option maxRecDepth 100000
def C_readO : FunT := fun args σ => match args, σ with
  | [.ptr (.agg [.one, .one, .one, .one]) 0 0 [], .dat (.int .i64 n)], [⟨.agg [.one, .one, .one, .one], false, false, .agg [.sref (.arr .one 128) 1 m [] 0 k, .dat (.slc (.agg [.one, .arr .one 128]) ws), .dat (.int .i64 f), .dat (.bool u)]⟩, ⟨.arr (.arr .one 128) 0, true, false, .dat (.arr (.arr .one 128) sf)⟩] =>
    .chk (!(able_v0 k n u != 0) && read_pre m k ws sf n) (.leaf ([.sref .one 2 0 [] 0 128, .dat (.int .i64 0)], [dB m k ws f u, sB sf, rB (.arr .one (now_v0 ws sf n))]))
  | _, _ => .fail
theorem creadO_ok : FunOk Try.prog 19 (FunT.run C_readO) := FunOk.of cread_ok (fun args σ r h => by
  unfold C_readO at h
  split at h
  · obtain ⟨h1, h⟩ := T.chk_some h
    rw [Bool.and_eq_true, Bool.not_eq_true'] at h1
    rw [← T.leaf_some h]
    show cond _ _ (cond _ _ _) = _
    rw [h1.1, h1.2]; rfl
  · simp [T.run_fail] at h)
abbrev SpK : Specs := [(7, C_new), (8, C_al), (11, C_write), (13, C_flush), (17, C_crash), (19, C_readO), (24, C_fil)]
theorem SpK_ok : SpecsOk Try.prog SpK := .cons cnew_ok (.cons cal_ok (.cons cwrite_ok (.cons cflush_ok (.cons ccrash_ok (.cons creadO_ok (.cons cfil_ok (.nil _)))))))
abbrev HK : Hints := [(4, 0, [.kill 10, .kill 19, .kill 20, .kill 21, .kill 22]), (9, 0, [.frzAt 9 [1], .kill 0, .kill 29, .kill 30]), (11, 0, [.freeze 13]), (19, 0, [.frzAt 9 [1], .kill 2, .kill 3]), (19, 7, [.freeze 15, .kill 9, .kill 89, .kill 90, .kill 92, .kill 93, .cut 0]), (999999, 24, [.is 24 (aBool false)]), (999999, 27, [.is 27 (aBool false)]), (999999, 40, [.is 40 (aBool false)]), (999999, 44, [.is 44 (aBool false)]), (999999, 88, [.is 88 (aBool false)]), (999999, 96, [.is 96 (aBool false)]), (999999, 100, [.is 100 (aBool false)]), (999999, 106, [.is 106 (aBool true)]), (999999, 109, [.is 109 (aBool true)]), (999999, 144, [.is 144 (aBool false)]), (999999, 145, [.is 145 (aBool true)])]
def kp_fr (_m _k : Nat) (c at_ : Int) (l ch _sf : List D) : (Int × Int × List D × List D × Int × Bool) → Frame' := fun ⟨i, mn, la, _, _, _⟩ => mkF 146 [(1, .dat (.int .u8 c)), (3, .dat (.slc .one ch)), (2, .dat (.slc s36 l)), (9, dP), (11, .dat (.int .i64 at_)), (12, .dat (.int .i64 mn)), (13, .dat (.slc .one la)), (14, .dat (.int .i64 i))]
def kp_st (m k : Nat) (_c _at_ : Int) (_l _ch sf : List D) : (Int × Int × List D × List D × Int × Bool) → Store := fun ⟨_, _, _, ws, f, u⟩ => [dB m k ws f u, sB sf]
def kp_step (m k : Nat) (c at_ : Int) (l ch sf : List D) : (Int × Int × List D × List D × Int × Bool) → T ((Int × Int × List D × List D × Int × Bool) ⊕ LOut) := fun ⟨i, mn, la, ws, f, u⟩ =>
  .chk (!decide (i < (↑(List.length l) : Int)) || (!decide (i < 40) || decide (0 ≤ i) && (decide (Int.toNat i < List.length l) && (okE (Ek.agg [Ek.int IntKind.i64, Ek.int IntKind.i64, Ek.slc Sh.one]) (nthD l (Int.toNat i)) && write_pre k ws (D.getL (nthD (D.getL (nthD l (Int.toNat i))) 2)) (D.getI (nthD (D.getL (nthD l (Int.toNat i))) 1)) u)))) (
   .br (!decide (i < (↑(List.length l) : Int)) || !decide (i < 40)) (.leaf (.inr ((some 0), mkF 146 [(1, .dat (.int IntKind.u8 c)), (3, .dat (.slc Sh.one ch)), (9, AV.ptr (s61) 0 0 []), (11, .dat (.int .i64 at_)), (12, .dat (.int .i64 mn)), (13, .dat (.slc Sh.one la))], [{ sh := s61, dyn := false, frz := false, v := AV.agg [AV.sref (Sh.arr Sh.one 128) 1 m [] 0 k, .dat (.slc (s67) ws), .dat (.int .i64 f), .dat (.bool u)] }, { sh := Sh.arr (Sh.arr Sh.one 128) 0, dyn := true, frz := false, v := .dat (.arr (Sh.arr Sh.one 128) sf) }]))) (.leaf (.inl ((IntKind.wrap IntKind.i64 (i + 1)), (bif write_v0 k (D.getL (nthD (D.getL (nthD l (Int.toNat i))) 2)) f (D.getI (nthD (D.getL (nthD l (Int.toNat i))) 1)) u == 0 then bif D.getI (nthD (D.getL (nthD l (Int.toNat i))) 1) == at_ then IntKind.wrap IntKind.i64 (mn + 1) else mn else mn), (bif write_v0 k (D.getL (nthD (D.getL (nthD l (Int.toNat i))) 2)) f (D.getI (nthD (D.getL (nthD l (Int.toNat i))) 1)) u == 0 then bif D.getI (nthD (D.getL (nthD l (Int.toNat i))) 1) == at_ then D.getL (nthD (D.getL (nthD l (Int.toNat i))) 2) else la else la), (write_v1 k ws (D.getL (nthD (D.getL (nthD l (Int.toNat i))) 2)) (D.getI (nthD (D.getL (nthD l (Int.toNat i))) 1)) u), (write_v2 k (D.getL (nthD (D.getL (nthD l (Int.toNat i))) 2)) f (D.getI (nthD (D.getL (nthD l (Int.toNat i))) 1)) u), (write_v3 k (D.getL (nthD (D.getL (nthD l (Int.toNat i))) 2)) f (D.getI (nthD (D.getL (nthD l (Int.toNat i))) 1)) u)))))
theorem kp_round (lp : Loops) (m k : Nat) (c at_ : Int) (l ch sf : List D) (i mn : Int) (la ws : List D) (f : Int) (u : Bool) (K : Kt) : oneRound (envOf tab SpK [] lp HK) Try.f5 0 (2) (mkF 146 [(1, .dat (.int .u8 c)), (3, .dat (.slc .one ch)), (2, .dat (.slc s36 l)), (9, dP), (11, .dat (.int .i64 at_)), (12, .dat (.int .i64 mn)), (13, .dat (.slc .one la)), (14, .dat (.int .i64 i))]) ([dB m k ws f u, sB sf]) K =
  (bif decide (i < (↑(List.length l) : Int)) then
   (bif decide (i < 40) then
    (bif decide (0 ≤ i) then
     (bif decide (Int.toNat i < List.length l) then
      (bif okE (Ek.agg [Ek.int IntKind.i64, Ek.int IntKind.i64, Ek.slc Sh.one]) (nthD l (Int.toNat i)) then
       (bif decide (0 ≤ i) then
        (bif decide (Int.toNat i < List.length l) then
         (bif okE (Ek.agg [Ek.int IntKind.i64, Ek.int IntKind.i64, Ek.slc Sh.one]) (nthD l (Int.toNat i)) then
          (bif write_pre k ws (D.getL (nthD (D.getL (nthD l (Int.toNat i))) 2)) (D.getI (nthD (D.getL (nthD l (Int.toNat i))) 1)) u then
           (bif write_v0 k (D.getL (nthD (D.getL (nthD l (Int.toNat i))) 2)) f (D.getI (nthD (D.getL (nthD l (Int.toNat i))) 1)) u == 0 then
            (bif decide (0 ≤ i) then
             (bif decide (Int.toNat i < List.length l) then
              (bif okE (Ek.agg [Ek.int IntKind.i64, Ek.int IntKind.i64, Ek.slc Sh.one]) (nthD l (Int.toNat i)) then
               (bif D.getI (nthD (D.getL (nthD l (Int.toNat i))) 1) == at_ then
                (bif decide (0 ≤ i) then
                 (bif decide (Int.toNat i < List.length l) then
                  (bif okE (Ek.agg [Ek.int IntKind.i64, Ek.int IntKind.i64, Ek.slc Sh.one]) (nthD l (Int.toNat i)) then K (Exit.normal) (mkF 146 [(1, .dat (.int IntKind.u8 c)), (2, .dat (.slc (s36) l)), (3, .dat (.slc Sh.one ch)), (9, AV.ptr (s61) 0 0 []), (11, .dat (.int .i64 at_)), (12, .dat (.int .i64 (IntKind.wrap IntKind.i64 (mn + 1)))), (13, .dat (.slc Sh.one (D.getL (nthD (D.getL (nthD l (Int.toNat i))) 2)))), (14, .dat (.int .i64 (IntKind.wrap IntKind.i64 (i + 1)))), (54, .dat (.int .i64 i)), (55, .dat (.int .i64 (IntKind.wrap IntKind.i64 (i + 1))))]) ([{ sh := s61, dyn := false, frz := false, v := AV.agg [AV.sref (Sh.arr Sh.one 128) 1 m [] 0 k, .dat (.slc (s67) (write_v1 k ws (D.getL (nthD (D.getL (nthD l (Int.toNat i))) 2)) (D.getI (nthD (D.getL (nthD l (Int.toNat i))) 1)) u)), .dat (.int .i64 (write_v2 k (D.getL (nthD (D.getL (nthD l (Int.toNat i))) 2)) f (D.getI (nthD (D.getL (nthD l (Int.toNat i))) 1)) u)), .dat (.bool (write_v3 k (D.getL (nthD (D.getL (nthD l (Int.toNat i))) 2)) f (D.getI (nthD (D.getL (nthD l (Int.toNat i))) 1)) u))] }, { sh := Sh.arr (Sh.arr Sh.one 128) 0, dyn := true, frz := false, v := .dat (.arr (Sh.arr Sh.one 128) sf) }]) else none) else none) else none) else K (Exit.normal) (mkF 146 [(1, .dat (.int IntKind.u8 c)), (2, .dat (.slc (s36) l)), (3, .dat (.slc Sh.one ch)), (9, AV.ptr (s61) 0 0 []), (11, .dat (.int .i64 at_)), (12, .dat (.int .i64 mn)), (13, .dat (.slc Sh.one la)), (14, .dat (.int .i64 (IntKind.wrap IntKind.i64 (i + 1)))), (54, .dat (.int .i64 i)), (55, .dat (.int .i64 (IntKind.wrap IntKind.i64 (i + 1))))]) ([{ sh := s61, dyn := false, frz := false, v := AV.agg [AV.sref (Sh.arr Sh.one 128) 1 m [] 0 k, .dat (.slc (s67) (write_v1 k ws (D.getL (nthD (D.getL (nthD l (Int.toNat i))) 2)) (D.getI (nthD (D.getL (nthD l (Int.toNat i))) 1)) u)), .dat (.int .i64 (write_v2 k (D.getL (nthD (D.getL (nthD l (Int.toNat i))) 2)) f (D.getI (nthD (D.getL (nthD l (Int.toNat i))) 1)) u)), .dat (.bool (write_v3 k (D.getL (nthD (D.getL (nthD l (Int.toNat i))) 2)) f (D.getI (nthD (D.getL (nthD l (Int.toNat i))) 1)) u))] }, { sh := Sh.arr (Sh.arr Sh.one 128) 0, dyn := true, frz := false, v := .dat (.arr (Sh.arr Sh.one 128) sf) }])) else none) else none) else none) else K (Exit.normal) (mkF 146 [(1, .dat (.int IntKind.u8 c)), (2, .dat (.slc (s36) l)), (3, .dat (.slc Sh.one ch)), (9, AV.ptr (s61) 0 0 []), (11, .dat (.int .i64 at_)), (12, .dat (.int .i64 mn)), (13, .dat (.slc Sh.one la)), (14, .dat (.int .i64 (IntKind.wrap IntKind.i64 (i + 1)))), (54, .dat (.int .i64 i)), (55, .dat (.int .i64 (IntKind.wrap IntKind.i64 (i + 1))))]) ([{ sh := s61, dyn := false, frz := false, v := AV.agg [AV.sref (Sh.arr Sh.one 128) 1 m [] 0 k, .dat (.slc (s67) (write_v1 k ws (D.getL (nthD (D.getL (nthD l (Int.toNat i))) 2)) (D.getI (nthD (D.getL (nthD l (Int.toNat i))) 1)) u)), .dat (.int .i64 (write_v2 k (D.getL (nthD (D.getL (nthD l (Int.toNat i))) 2)) f (D.getI (nthD (D.getL (nthD l (Int.toNat i))) 1)) u)), .dat (.bool (write_v3 k (D.getL (nthD (D.getL (nthD l (Int.toNat i))) 2)) f (D.getI (nthD (D.getL (nthD l (Int.toNat i))) 1)) u))] }, { sh := Sh.arr (Sh.arr Sh.one 128) 0, dyn := true, frz := false, v := .dat (.arr (Sh.arr Sh.one 128) sf) }])) else none) else none) else none) else none) else none) else none) else none) else K (Exit.exit 0) (mkF 146 [(1, .dat (.int IntKind.u8 c)), (3, .dat (.slc Sh.one ch)), (9, AV.ptr (s61) 0 0 []), (11, .dat (.int .i64 at_)), (12, .dat (.int .i64 mn)), (13, .dat (.slc Sh.one la))]) ([{ sh := s61, dyn := false, frz := false, v := AV.agg [AV.sref (Sh.arr Sh.one 128) 1 m [] 0 k, .dat (.slc (s67) ws), .dat (.int .i64 f), .dat (.bool u)] }, { sh := Sh.arr (Sh.arr Sh.one 128) 0, dyn := true, frz := false, v := .dat (.arr (Sh.arr Sh.one 128) sf) }])) else K (Exit.exit 0) (mkF 146 [(1, .dat (.int IntKind.u8 c)), (3, .dat (.slc Sh.one ch)), (9, AV.ptr (s61) 0 0 []), (11, .dat (.int .i64 at_)), (12, .dat (.int .i64 mn)), (13, .dat (.slc Sh.one la))]) ([{ sh := s61, dyn := false, frz := false, v := AV.agg [AV.sref (Sh.arr Sh.one 128) 1 m [] 0 k, .dat (.slc (s67) ws), .dat (.int .i64 f), .dat (.bool u)] }, { sh := Sh.arr (Sh.arr Sh.one 128) 0, dyn := true, frz := false, v := .dat (.arr (Sh.arr Sh.one 128) sf) }])) := by kernel_rfl
theorem kp_hr (lp : Loops) (m k : Nat) (c at_ : Int) (l ch sf : List D) : ∀ (sA : (Int × Int × List D × List D × Int × Bool)) (K : Kt) (N : (Int × Int × List D × List D × Int × Bool) → Option Res), (∀ sB fr' σ', cleanF (liveAt Try.f5 0) 0 fr' = kp_fr m k c at_ l ch sf sB → trim (2) (kp_fr m k c at_ l ch sf sB) σ' = kp_st m k c at_ l ch sf sB → K .normal fr' σ' = N sB) →
    oneRound (envOf tab SpK [] lp HK) Try.f5 0 (2) (kp_fr m k c at_ l ch sf sA) (kp_st m k c at_ l ch sf sA) K = (kp_step m k c at_ l ch sf sA).k (LK K N) := by
  intro sA K N hN
  obtain ⟨i, mn, la, ws, f, u⟩ := sA
  refine (kp_round lp m k c at_ l ch sf i mn la ws f u K).trans ?_
  show _ = T.k ((
  .chk (!decide (i < (↑(List.length l) : Int)) || (!decide (i < 40) || decide (0 ≤ i) && (decide (Int.toNat i < List.length l) && (okE (Ek.agg [Ek.int IntKind.i64, Ek.int IntKind.i64, Ek.slc Sh.one]) (nthD l (Int.toNat i)) && write_pre k ws (D.getL (nthD (D.getL (nthD l (Int.toNat i))) 2)) (D.getI (nthD (D.getL (nthD l (Int.toNat i))) 1)) u)))) (
   .br (!decide (i < (↑(List.length l) : Int)) || !decide (i < 40)) (.leaf (.inr ((some 0), mkF 146 [(1, .dat (.int IntKind.u8 c)), (3, .dat (.slc Sh.one ch)), (9, AV.ptr (s61) 0 0 []), (11, .dat (.int .i64 at_)), (12, .dat (.int .i64 mn)), (13, .dat (.slc Sh.one la))], [{ sh := s61, dyn := false, frz := false, v := AV.agg [AV.sref (Sh.arr Sh.one 128) 1 m [] 0 k, .dat (.slc (s67) ws), .dat (.int .i64 f), .dat (.bool u)] }, { sh := Sh.arr (Sh.arr Sh.one 128) 0, dyn := true, frz := false, v := .dat (.arr (Sh.arr Sh.one 128) sf) }]))) (.leaf (.inl ((IntKind.wrap IntKind.i64 (i + 1)), (bif write_v0 k (D.getL (nthD (D.getL (nthD l (Int.toNat i))) 2)) f (D.getI (nthD (D.getL (nthD l (Int.toNat i))) 1)) u == 0 then bif D.getI (nthD (D.getL (nthD l (Int.toNat i))) 1) == at_ then IntKind.wrap IntKind.i64 (mn + 1) else mn else mn), (bif write_v0 k (D.getL (nthD (D.getL (nthD l (Int.toNat i))) 2)) f (D.getI (nthD (D.getL (nthD l (Int.toNat i))) 1)) u == 0 then bif D.getI (nthD (D.getL (nthD l (Int.toNat i))) 1) == at_ then D.getL (nthD (D.getL (nthD l (Int.toNat i))) 2) else la else la), (write_v1 k ws (D.getL (nthD (D.getL (nthD l (Int.toNat i))) 2)) (D.getI (nthD (D.getL (nthD l (Int.toNat i))) 1)) u), (write_v2 k (D.getL (nthD (D.getL (nthD l (Int.toNat i))) 2)) f (D.getI (nthD (D.getL (nthD l (Int.toNat i))) 1)) u), (write_v3 k (D.getL (nthD (D.getL (nthD l (Int.toNat i))) 2)) f (D.getI (nthD (D.getL (nthD l (Int.toNat i))) 1)) u)))))) : T ((Int × Int × List D × List D × Int × Bool) ⊕ LOut)) (LK K N)
  generalize (write_v0 k (D.getL (nthD (D.getL (nthD l (Int.toNat i))) 2)) f (D.getI (nthD (D.getL (nthD l (Int.toNat i))) 1)) u == 0) = z0
  generalize (write_pre k ws (D.getL (nthD (D.getL (nthD l (Int.toNat i))) 2)) (D.getI (nthD (D.getL (nthD l (Int.toNat i))) 1)) u) = z1
  generalize (okE (Ek.agg [Ek.int IntKind.i64, Ek.int IntKind.i64, Ek.slc Sh.one]) (nthD l (Int.toNat i))) = z2
  generalize (decide (i < (↑(List.length l) : Int))) = z3
  generalize (D.getI (nthD (D.getL (nthD l (Int.toNat i))) 1) == at_) = z4
  generalize (decide (i < 40)) = z5
  generalize (decide (0 ≤ i)) = z6
  generalize (decide (Int.toNat i < List.length l)) = z7
  cases z3 with
  | true =>
   cases z5 with
   | true =>
    cases z6 with
    | true =>
     cases z7 with
     | true =>
      cases z2 with
      | true =>
       cases z1 with
       | true =>
        cases z0 with
        | true =>
         cases z4 with
         | true =>
          exact hN _ _ _ (by kernel_rfl) (by kernel_rfl)
         | false =>
          exact hN _ _ _ (by kernel_rfl) (by kernel_rfl)
        | false =>
         exact hN _ _ _ (by kernel_rfl) (by kernel_rfl)
       | false =>
        rfl
      | false =>
       rfl
     | false =>
      rfl
    | false =>
     rfl
   | false =>
    rfl
  | false =>
   rfl
theorem kp_enter (m k : Nat) (c at_ : Int) (l ch sf : List D) (i mn : Int) (la ws : List D) (f : Int) (u : Bool) (fr : Frame') (hl : Nat.beq fr.length 146 = true) (g1 : fr.getD 1 .undef = .dat (.int IntKind.u8 c)) (g3 : fr.getD 3 .undef = .dat (.slc Sh.one ch)) (g2 : fr.getD 2 .undef = .dat (.slc (s36) l)) (g9 : fr.getD 9 .undef = AV.ptr (s61) 0 0 []) (g11 : fr.getD 11 .undef = .dat (.int .i64 at_)) (g12 : fr.getD 12 .undef = .dat (.int .i64 mn)) (g13 : fr.getD 13 .undef = .dat (.slc Sh.one la)) (g14 : fr.getD 14 .undef = .dat (.int .i64 i)) : cleanF (liveAt Try.f5 0) 0 fr = kp_fr m k c at_ l ch sf (i, mn, la, ws, f, u) := by
  have e : liveAt Try.f5 0 = [2, 14, 3, 9, 11, 12, 13, 1] := by kernel_rfl
  rw [clean_mk (Nat.eq_of_beq_eq_true hl), e]
  show mkF 146 [(2, fr.getD 2 .undef), (14, fr.getD 14 .undef), (3, fr.getD 3 .undef), (9, fr.getD 9 .undef), (11, fr.getD 11 .undef), (12, fr.getD 12 .undef), (13, fr.getD 13 .undef), (1, fr.getD 1 .undef)] = _
  rw [g2, g14, g3, g9, g11, g12, g13, g1]
  kernel_rfl
def kt_fr (c mn : Int) (la b : List D) : Int → Frame' := fun i => mkF 146 [(1, .dat (.int .u8 c)), (12, .dat (.int .i64 mn)), (13, .dat (.slc .one la)), (15, .dat (.slc .one b)), (17, .dat (.int .i64 i))]
def kt_st (_c _mn : Int) (_la _b : List D) : Int → Store := fun _ => []
def kt_step (c mn : Int) (la b : List D) : Int → T (Int ⊕ LOut) := fun i =>
  .chk (!decide (i < 128) || (!mn == 1 || decide (0 ≤ IntKind.wrap IntKind.i64 (i + 8)) && (decide (0 ≤ i) && (decide (Int.toNat i ≤ Int.toNat (IntKind.wrap IntKind.i64 (i + 8))) && decide (Int.toNat (IntKind.wrap IntKind.i64 (i + 8)) ≤ List.length b) && (isBytes (seg b (Int.toNat i) (Int.toNat (IntKind.wrap IntKind.i64 (i + 8)) - Int.toNat i)) && (decide (Int.toNat i ≤ Int.toNat (IntKind.wrap IntKind.i64 (i + 8))) && decide (Int.toNat (IntKind.wrap IntKind.i64 (i + 8)) ≤ List.length la) && isBytes (seg la (Int.toNat i) (Int.toNat (IntKind.wrap IntKind.i64 (i + 8)) - Int.toNat i)))))))) (
   .br (!decide (i < 128) || (!mn == 1 || !decide (byteVs (seg b (Int.toNat i) (Int.toNat (IntKind.wrap IntKind.i64 (i + 8)) - Int.toNat i)) = byteVs (seg la (Int.toNat i) (Int.toNat (IntKind.wrap IntKind.i64 (i + 8)) - Int.toNat i))))) (.leaf (.inr ((some 2), mkF 146 [(1, .dat (.int IntKind.u8 c)), (15, .dat (.slc Sh.one b)), (17, .dat (.int .i64 i))], []))) (.leaf (.inl (IntKind.wrap IntKind.i64 (i + 8)))))
theorem kt_round (lp : Loops) (c mn : Int) (la b : List D) (i : Int) (K : Kt) : oneRound (envOf tab SpK [] lp HK) Try.f5 1 (0) (mkF 146 [(1, .dat (.int .u8 c)), (12, .dat (.int .i64 mn)), (13, .dat (.slc .one la)), (15, .dat (.slc .one b)), (17, .dat (.int .i64 i))]) ([]) K =
  (bif decide (i < 128) then
   (bif mn == 1 then
    (bif decide (0 ≤ IntKind.wrap IntKind.i64 (i + 8)) then
     (bif decide (0 ≤ i) then
      (bif decide (Int.toNat i ≤ Int.toNat (IntKind.wrap IntKind.i64 (i + 8))) && decide (Int.toNat (IntKind.wrap IntKind.i64 (i + 8)) ≤ List.length b) then
       (bif isBytes (seg b (Int.toNat i) (Int.toNat (IntKind.wrap IntKind.i64 (i + 8)) - Int.toNat i)) then
        (bif decide (0 ≤ IntKind.wrap IntKind.i64 (i + 8)) then
         (bif decide (0 ≤ i) then
          (bif decide (Int.toNat i ≤ Int.toNat (IntKind.wrap IntKind.i64 (i + 8))) && decide (Int.toNat (IntKind.wrap IntKind.i64 (i + 8)) ≤ List.length la) then
           (bif isBytes (seg la (Int.toNat i) (Int.toNat (IntKind.wrap IntKind.i64 (i + 8)) - Int.toNat i)) then
            (bif decide (byteVs (seg b (Int.toNat i) (Int.toNat (IntKind.wrap IntKind.i64 (i + 8)) - Int.toNat i)) = byteVs (seg la (Int.toNat i) (Int.toNat (IntKind.wrap IntKind.i64 (i + 8)) - Int.toNat i))) then K (Exit.normal) (mkF 146 [(1, .dat (.int IntKind.u8 c)), (12, .dat (.int .i64 mn)), (13, .dat (.slc Sh.one la)), (15, .dat (.slc Sh.one b)), (17, .dat (.int .i64 (IntKind.wrap IntKind.i64 (i + 8)))), (132, .dat (.int .i64 i)), (133, .dat (.int .i64 (IntKind.wrap IntKind.i64 (i + 8))))]) ([]) else K (Exit.exit 2) (mkF 146 [(1, .dat (.int IntKind.u8 c)), (15, .dat (.slc Sh.one b)), (17, .dat (.int .i64 i))]) ([])) else none) else none) else none) else none) else none) else none) else none) else none) else K (Exit.exit 2) (mkF 146 [(1, .dat (.int IntKind.u8 c)), (15, .dat (.slc Sh.one b)), (17, .dat (.int .i64 i))]) ([])) else K (Exit.exit 2) (mkF 146 [(1, .dat (.int IntKind.u8 c)), (15, .dat (.slc Sh.one b)), (17, .dat (.int .i64 i))]) ([])) := by kernel_rfl
theorem kt_hr (lp : Loops) (c mn : Int) (la b : List D) : ∀ (sA : Int) (K : Kt) (N : Int → Option Res), (∀ sB fr' σ', cleanF (liveAt Try.f5 1) 0 fr' = kt_fr c mn la b sB → trim (0) (kt_fr c mn la b sB) σ' = kt_st c mn la b sB → K .normal fr' σ' = N sB) →
    oneRound (envOf tab SpK [] lp HK) Try.f5 1 (0) (kt_fr c mn la b sA) (kt_st c mn la b sA) K = (kt_step c mn la b sA).k (LK K N) := by
  intro i K N hN
  refine (kt_round lp c mn la b i K).trans ?_
  show _ = T.k ((
  .chk (!decide (i < 128) || (!mn == 1 || decide (0 ≤ IntKind.wrap IntKind.i64 (i + 8)) && (decide (0 ≤ i) && (decide (Int.toNat i ≤ Int.toNat (IntKind.wrap IntKind.i64 (i + 8))) && decide (Int.toNat (IntKind.wrap IntKind.i64 (i + 8)) ≤ List.length b) && (isBytes (seg b (Int.toNat i) (Int.toNat (IntKind.wrap IntKind.i64 (i + 8)) - Int.toNat i)) && (decide (Int.toNat i ≤ Int.toNat (IntKind.wrap IntKind.i64 (i + 8))) && decide (Int.toNat (IntKind.wrap IntKind.i64 (i + 8)) ≤ List.length la) && isBytes (seg la (Int.toNat i) (Int.toNat (IntKind.wrap IntKind.i64 (i + 8)) - Int.toNat i)))))))) (
   .br (!decide (i < 128) || (!mn == 1 || !decide (byteVs (seg b (Int.toNat i) (Int.toNat (IntKind.wrap IntKind.i64 (i + 8)) - Int.toNat i)) = byteVs (seg la (Int.toNat i) (Int.toNat (IntKind.wrap IntKind.i64 (i + 8)) - Int.toNat i))))) (.leaf (.inr ((some 2), mkF 146 [(1, .dat (.int IntKind.u8 c)), (15, .dat (.slc Sh.one b)), (17, .dat (.int .i64 i))], []))) (.leaf (.inl (IntKind.wrap IntKind.i64 (i + 8)))))) : T (Int ⊕ LOut)) (LK K N)
  generalize (decide (byteVs (seg b (Int.toNat i) (Int.toNat (IntKind.wrap IntKind.i64 (i + 8)) - Int.toNat i)) = byteVs (seg la (Int.toNat i) (Int.toNat (IntKind.wrap IntKind.i64 (i + 8)) - Int.toNat i)))) = z0
  generalize (decide (Int.toNat i ≤ Int.toNat (IntKind.wrap IntKind.i64 (i + 8))) && decide (Int.toNat (IntKind.wrap IntKind.i64 (i + 8)) ≤ List.length b)) = z1
  generalize (decide (Int.toNat i ≤ Int.toNat (IntKind.wrap IntKind.i64 (i + 8))) && decide (Int.toNat (IntKind.wrap IntKind.i64 (i + 8)) ≤ List.length la)) = z2
  generalize (decide (0 ≤ IntKind.wrap IntKind.i64 (i + 8))) = z3
  generalize (isBytes (seg b (Int.toNat i) (Int.toNat (IntKind.wrap IntKind.i64 (i + 8)) - Int.toNat i))) = z4
  generalize (isBytes (seg la (Int.toNat i) (Int.toNat (IntKind.wrap IntKind.i64 (i + 8)) - Int.toNat i))) = z5
  generalize (decide (i < 128)) = z6
  generalize (decide (0 ≤ i)) = z7
  generalize (mn == 1) = z8
  cases z6 with
  | true =>
   cases z8 with
   | true =>
    cases z3 with
    | true =>
     cases z7 with
     | true =>
      cases z1 with
      | true =>
       cases z4 with
       | true =>
        cases z2 with
        | true =>
         cases z5 with
         | true =>
          cases z0 with
          | true =>
           exact hN _ _ _ (by kernel_rfl) (by kernel_rfl)
          | false =>
           rfl
         | false =>
          rfl
        | false =>
         rfl
       | false =>
        rfl
      | false =>
       rfl
     | false =>
      rfl
    | false =>
     rfl
   | false =>
    rfl
  | false =>
   rfl
theorem kt_enter (c mn : Int) (la b : List D) (i : Int) (fr : Frame') (hl : Nat.beq fr.length 146 = true) (g1 : fr.getD 1 .undef = .dat (.int IntKind.u8 c)) (g12 : fr.getD 12 .undef = .dat (.int .i64 mn)) (g13 : fr.getD 13 .undef = .dat (.slc Sh.one la)) (g15 : fr.getD 15 .undef = .dat (.slc Sh.one b)) (g17 : fr.getD 17 .undef = .dat (.int .i64 i)) : cleanF (liveAt Try.f5 1) 0 fr = kt_fr c mn la b i := by
  have e : liveAt Try.f5 1 = [12, 13, 17, 15, 1] := by kernel_rfl
  rw [clean_mk (Nat.eq_of_beq_eq_true hl), e]
  show mkF 146 [(12, fr.getD 12 .undef), (13, fr.getD 13 .undef), (17, fr.getD 17 .undef), (15, fr.getD 15 .undef), (1, fr.getD 1 .undef)] = _
  rw [g12, g13, g17, g15, g1]
  kernel_rfl
def kc_fr (c : Int) (b : List D) : Int → Frame' := fun i => mkF 146 [(1, .dat (.int .u8 c)), (15, .dat (.slc .one b)), (18, .dat (.int .i64 i))]
def kc_st (_c : Int) (_b : List D) : Int → Store := fun _ => []
def kc_step (c : Int) (b : List D) : Int → T (Int ⊕ LOut) := fun i =>
  .chk (!decide (i < 128) || decide (0 ≤ i) && (decide (Int.toNat i < List.length b) && (okE (Ek.int IntKind.u8) (nthD b (Int.toNat i)) && !D.getI (nthD b (Int.toNat i)) != c))) (
   .br (!decide (i < 128)) (.leaf (.inr ((some 4), mkF 146 [], []))) (.leaf (.inl (IntKind.wrap IntKind.i64 (i + 1)))))
theorem kc_round (lp : Loops) (c : Int) (b : List D) (i : Int) (K : Kt) : oneRound (envOf tab SpK [] lp HK) Try.f5 2 (0) (mkF 146 [(1, .dat (.int .u8 c)), (15, .dat (.slc .one b)), (18, .dat (.int .i64 i))]) ([]) K =
  (bif decide (i < 128) then
   (bif decide (0 ≤ i) then
    (bif decide (Int.toNat i < List.length b) then
     (bif okE (Ek.int IntKind.u8) (nthD b (Int.toNat i)) then
      (bif D.eqb (D.bool (D.getI (nthD b (Int.toNat i)) != c)) (D.bool false) then K (Exit.normal) (mkF 146 [(1, .dat (.int IntKind.u8 c)), (15, .dat (.slc Sh.one b)), (18, .dat (.int .i64 (IntKind.wrap IntKind.i64 (i + 1)))), (137, .dat (.int .i64 i)), (138, .dat (.int .i64 (IntKind.wrap IntKind.i64 (i + 1))))]) ([]) else none) else none) else none) else none) else K (Exit.exit 4) (mkF 146 []) ([])) := by kernel_rfl
theorem kc_hr (lp : Loops) (c : Int) (b : List D) : ∀ (sA : Int) (K : Kt) (N : Int → Option Res), (∀ sB fr' σ', cleanF (liveAt Try.f5 2) 0 fr' = kc_fr c b sB → trim (0) (kc_fr c b sB) σ' = kc_st c b sB → K .normal fr' σ' = N sB) →
    oneRound (envOf tab SpK [] lp HK) Try.f5 2 (0) (kc_fr c b sA) (kc_st c b sA) K = (kc_step c b sA).k (LK K N) := by
  intro i K N hN
  refine (kc_round lp c b i K).trans ?_
  show _ = T.k ((
  .chk (!decide (i < 128) || decide (0 ≤ i) && (decide (Int.toNat i < List.length b) && (okE (Ek.int IntKind.u8) (nthD b (Int.toNat i)) && !D.getI (nthD b (Int.toNat i)) != c))) (
   .br (!decide (i < 128)) (.leaf (.inr ((some 4), mkF 146 [], []))) (.leaf (.inl (IntKind.wrap IntKind.i64 (i + 1)))))) : T (Int ⊕ LOut)) (LK K N)
  generalize (decide (0 ≤ i)) = z0
  generalize (decide (i < 128)) = z1
  generalize (decide (Int.toNat i < List.length b)) = z2
  generalize (D.getI (nthD b (Int.toNat i)) != c) = z3
  generalize (okE (Ek.int IntKind.u8) (nthD b (Int.toNat i))) = z4
  cases z1 with
  | true =>
   cases z0 with
   | true =>
    cases z2 with
    | true =>
     cases z4 with
     | true =>
      cases z3 with
      | true =>
       rfl
      | false =>
       exact hN _ _ _ (by kernel_rfl) (by kernel_rfl)
     | false =>
      rfl
    | false =>
     rfl
   | false =>
    rfl
  | false =>
   rfl
theorem kc_enter (c : Int) (b : List D) (i : Int) (fr : Frame') (hl : Nat.beq fr.length 146 = true) (g1 : fr.getD 1 .undef = .dat (.int IntKind.u8 c)) (g15 : fr.getD 15 .undef = .dat (.slc Sh.one b)) (g18 : fr.getD 18 .undef = .dat (.int .i64 i)) : cleanF (liveAt Try.f5 2) 0 fr = kc_fr c b i := by
  have e : liveAt Try.f5 2 = [15, 1, 18] := by kernel_rfl
  rw [clean_mk (Nat.eq_of_beq_eq_true hl), e]
  show mkF 146 [(15, fr.getD 15 .undef), (1, fr.getD 1 .undef), (18, fr.getD 18 .undef)] = _
  rw [g15, g1, g18]
  kernel_rfl
end Go.Proofs.Ythhipekbkodjoaa
