/- Seat 07: is a disk as told? -/
import Derived.Test.YthhipekbkodjoaaH
namespace Go.Proofs.Ythhipekbkodjoaa
open Go.AX
set_option maxRecDepth 100000
abbrev SpS : Specs := [(9, C_size), (19, C_read), (20, C_rread), (25, C_off), (26, C_waits)]
theorem SpS_ok : SpecsOk Try.prog SpS := .cons csize_ok (.cons cread_ok (.cons crread_ok (.cons coff_ok (.cons cwaits_ok (.nil _)))))
def sm_fr (_m _k : Nat) (_ws _sf _nw _sa _wa : List D) (_f _g : Int) (_u _v : Bool) : Int → Frame' := fun i => mkF 59 [(0, dP), (3, .ptr s32 2 0 []), (5, .dat (.int .i64 i))]
def sm_st (m k : Nat) (ws sf nw sa wa : List D) (f g : Int) (u v : Bool) : Int → Store := fun _ => [dB m k ws f u, sB sf, xB nw sa wa g v]
def sm_step (m k : Nat) (ws sf nw sa wa : List D) (f g : Int) (u v : Bool) : Int → T (Int ⊕ LOut) := fun i =>
  .chk (!decide (i < (↑(List.length nw) : Int)) || bif able_v0 k i u != 0 then rread_pre nw i v else read_pre m k ws sf i && (rread_pre nw i v && (0 != rread_v1 nw i v || isBytes (seg (now_v0 ws sf i) 0 128)))) (
   .br (!decide (i < (↑(List.length nw) : Int))) (.leaf (.inr ((some 0), mkF 59 [(0, AV.ptr (s61) 0 0 []), (3, AV.ptr (s32) 2 0 [])], [{ sh := s61, dyn := false, frz := false, v := AV.agg [AV.sref (Sh.arr Sh.one 128) 1 m [] 0 k, .dat (.slc (s67) ws), .dat (.int .i64 f), .dat (.bool u)] }, { sh := Sh.arr (Sh.arr Sh.one 128) 0, dyn := true, frz := false, v := .dat (.arr (Sh.arr Sh.one 128) sf) }, { sh := s32, dyn := false, frz := false, v := .dat (.agg [D.slc Sh.one nw, D.slc Sh.one sa, D.slc (Sh.agg [Sh.one, Sh.one]) wa, D.int .i64 g, D.bool v]) }]))) (
    .br (decide (i < (↑(List.length nw) : Int)) && (able_v0 k i u != 0 && (able_v0 k i u != rread_v1 nw i v || !decide ([] = Array.toList (ByteArray.data (rread_v0 nw i v)))))) (.leaf (.inr (none, mkF 59 [(4, .dat (.bool false))], [{ sh := s61, dyn := false, frz := false, v := AV.agg [AV.sref (Sh.arr Sh.one 128) 1 m [] 0 k, .dat (.slc (s67) ws), .dat (.int .i64 f), .dat (.bool u)] }, { sh := Sh.arr (Sh.arr Sh.one 128) 0, dyn := true, frz := false, v := .dat (.arr (Sh.arr Sh.one 128) sf) }, { sh := s32, dyn := false, frz := false, v := .dat (.agg [D.slc Sh.one nw, D.slc Sh.one sa, D.slc (Sh.agg [Sh.one, Sh.one]) wa, D.int .i64 g, D.bool v]) }]))) (
     .br (decide (i < (↑(List.length nw) : Int)) && (!able_v0 k i u != 0 && (0 != rread_v1 nw i v || !decide (byteVs (seg (now_v0 ws sf i) 0 128) = Array.toList (ByteArray.data (rread_v0 nw i v)))))) (.leaf (.inr (none, mkF 59 [(4, .dat (.bool false))], [{ sh := s61, dyn := false, frz := false, v := AV.agg [AV.sref (Sh.arr Sh.one 128) 1 m [] 0 k, .dat (.slc (s67) ws), .dat (.int .i64 f), .dat (.bool u)] }, { sh := Sh.arr (Sh.arr Sh.one 128) 0, dyn := true, frz := false, v := .dat (.arr (Sh.arr Sh.one 128) sf) }, { sh := s32, dyn := false, frz := false, v := .dat (.agg [D.slc Sh.one nw, D.slc Sh.one sa, D.slc (Sh.agg [Sh.one, Sh.one]) wa, D.int .i64 g, D.bool v]) }, { sh := Sh.arr Sh.one 128, dyn := false, frz := false, v := .dat (.arr Sh.one (now_v0 ws sf i)) }]))) (.leaf (.inl (IntKind.wrap IntKind.i64 (i + 1)))))))
theorem sm_round (lp : Loops) (m k : Nat) (ws sf nw sa wa : List D) (f g : Int) (u v : Bool) (i : Int) (K : Kt) : oneRound (envOf tab SpS [] lp []) Try.f21 0 (3) (mkF 59 [(0, dP), (3, .ptr s32 2 0 []), (5, .dat (.int .i64 i))]) ([dB m k ws f u, sB sf, xB nw sa wa g v]) K =
  (bif decide (i < (↑(List.length nw) : Int)) then
   (bif able_v0 k i u != 0 then
    (bif rread_pre nw i v then
     (bif able_v0 k i u != rread_v1 nw i v then K (Exit.ret) (mkF 59 [(4, .dat (.bool false))]) ([{ sh := s61, dyn := false, frz := false, v := AV.agg [AV.sref (Sh.arr Sh.one 128) 1 m [] 0 k, .dat (.slc (s67) ws), .dat (.int .i64 f), .dat (.bool u)] }, { sh := Sh.arr (Sh.arr Sh.one 128) 0, dyn := true, frz := false, v := .dat (.arr (Sh.arr Sh.one 128) sf) }, { sh := s32, dyn := false, frz := false, v := .dat (.agg [D.slc Sh.one nw, D.slc Sh.one sa, D.slc (Sh.agg [Sh.one, Sh.one]) wa, D.int .i64 g, D.bool v]) }]) else
      (bif !decide ([] = Array.toList (ByteArray.data (rread_v0 nw i v))) then K (Exit.ret) (mkF 59 [(4, .dat (.bool false))]) ([{ sh := s61, dyn := false, frz := false, v := AV.agg [AV.sref (Sh.arr Sh.one 128) 1 m [] 0 k, .dat (.slc (s67) ws), .dat (.int .i64 f), .dat (.bool u)] }, { sh := Sh.arr (Sh.arr Sh.one 128) 0, dyn := true, frz := false, v := .dat (.arr (Sh.arr Sh.one 128) sf) }, { sh := s32, dyn := false, frz := false, v := .dat (.agg [D.slc Sh.one nw, D.slc Sh.one sa, D.slc (Sh.agg [Sh.one, Sh.one]) wa, D.int .i64 g, D.bool v]) }]) else K (Exit.normal) (mkF 59 [(0, AV.ptr (s61) 0 0 []), (3, AV.ptr (s32) 2 0 []), (5, .dat (.int .i64 (IntKind.wrap IntKind.i64 (i + 1)))), (15, .dat (.int .i64 i)), (16, .dat (.int .i64 (IntKind.wrap IntKind.i64 (i + 1))))]) ([{ sh := s61, dyn := false, frz := false, v := AV.agg [AV.sref (Sh.arr Sh.one 128) 1 m [] 0 k, .dat (.slc (s67) ws), .dat (.int .i64 f), .dat (.bool u)] }, { sh := Sh.arr (Sh.arr Sh.one 128) 0, dyn := true, frz := false, v := .dat (.arr (Sh.arr Sh.one 128) sf) }, { sh := s32, dyn := false, frz := false, v := .dat (.agg [D.slc Sh.one nw, D.slc Sh.one sa, D.slc (Sh.agg [Sh.one, Sh.one]) wa, D.int .i64 g, D.bool v]) }]))) else none) else
    (bif read_pre m k ws sf i then
     (bif rread_pre nw i v then
      (bif 0 != rread_v1 nw i v then K (Exit.ret) (mkF 59 [(4, .dat (.bool false))]) ([{ sh := s61, dyn := false, frz := false, v := AV.agg [AV.sref (Sh.arr Sh.one 128) 1 m [] 0 k, .dat (.slc (s67) ws), .dat (.int .i64 f), .dat (.bool u)] }, { sh := Sh.arr (Sh.arr Sh.one 128) 0, dyn := true, frz := false, v := .dat (.arr (Sh.arr Sh.one 128) sf) }, { sh := s32, dyn := false, frz := false, v := .dat (.agg [D.slc Sh.one nw, D.slc Sh.one sa, D.slc (Sh.agg [Sh.one, Sh.one]) wa, D.int .i64 g, D.bool v]) }, { sh := Sh.arr Sh.one 128, dyn := false, frz := false, v := .dat (.arr Sh.one (now_v0 ws sf i)) }]) else
       (bif isBytes (seg (now_v0 ws sf i) 0 128) then
        (bif !decide (byteVs (seg (now_v0 ws sf i) 0 128) = Array.toList (ByteArray.data (rread_v0 nw i v))) then K (Exit.ret) (mkF 59 [(4, .dat (.bool false))]) ([{ sh := s61, dyn := false, frz := false, v := AV.agg [AV.sref (Sh.arr Sh.one 128) 1 m [] 0 k, .dat (.slc (s67) ws), .dat (.int .i64 f), .dat (.bool u)] }, { sh := Sh.arr (Sh.arr Sh.one 128) 0, dyn := true, frz := false, v := .dat (.arr (Sh.arr Sh.one 128) sf) }, { sh := s32, dyn := false, frz := false, v := .dat (.agg [D.slc Sh.one nw, D.slc Sh.one sa, D.slc (Sh.agg [Sh.one, Sh.one]) wa, D.int .i64 g, D.bool v]) }, { sh := Sh.arr Sh.one 128, dyn := false, frz := false, v := .dat (.arr Sh.one (now_v0 ws sf i)) }]) else K (Exit.normal) (mkF 59 [(0, AV.ptr (s61) 0 0 []), (3, AV.ptr (s32) 2 0 []), (5, .dat (.int .i64 (IntKind.wrap IntKind.i64 (i + 1)))), (15, .dat (.int .i64 i)), (16, .dat (.int .i64 (IntKind.wrap IntKind.i64 (i + 1))))]) ([{ sh := s61, dyn := false, frz := false, v := AV.agg [AV.sref (Sh.arr Sh.one 128) 1 m [] 0 k, .dat (.slc (s67) ws), .dat (.int .i64 f), .dat (.bool u)] }, { sh := Sh.arr (Sh.arr Sh.one 128) 0, dyn := true, frz := false, v := .dat (.arr (Sh.arr Sh.one 128) sf) }, { sh := s32, dyn := false, frz := false, v := .dat (.agg [D.slc Sh.one nw, D.slc Sh.one sa, D.slc (Sh.agg [Sh.one, Sh.one]) wa, D.int .i64 g, D.bool v]) }, { sh := Sh.arr Sh.one 128, dyn := false, frz := false, v := .dat (.arr Sh.one (now_v0 ws sf i)) }])) else none)) else none) else none)) else K (Exit.exit 0) (mkF 59 [(0, AV.ptr (s61) 0 0 []), (3, AV.ptr (s32) 2 0 [])]) ([{ sh := s61, dyn := false, frz := false, v := AV.agg [AV.sref (Sh.arr Sh.one 128) 1 m [] 0 k, .dat (.slc (s67) ws), .dat (.int .i64 f), .dat (.bool u)] }, { sh := Sh.arr (Sh.arr Sh.one 128) 0, dyn := true, frz := false, v := .dat (.arr (Sh.arr Sh.one 128) sf) }, { sh := s32, dyn := false, frz := false, v := .dat (.agg [D.slc Sh.one nw, D.slc Sh.one sa, D.slc (Sh.agg [Sh.one, Sh.one]) wa, D.int .i64 g, D.bool v]) }])) := by kernel_rfl
theorem sm_hr (lp : Loops) (m k : Nat) (ws sf nw sa wa : List D) (f g : Int) (u v : Bool) : ∀ (sA : Int) (K : Kt) (N : Int → Option Res), (∀ sB fr' σ', cleanF (liveAt Try.f21 0) 0 fr' = sm_fr m k ws sf nw sa wa f g u v sB → trim (3) (sm_fr m k ws sf nw sa wa f g u v sB) σ' = sm_st m k ws sf nw sa wa f g u v sB → K .normal fr' σ' = N sB) →
    oneRound (envOf tab SpS [] lp []) Try.f21 0 (3) (sm_fr m k ws sf nw sa wa f g u v sA) (sm_st m k ws sf nw sa wa f g u v sA) K = (sm_step m k ws sf nw sa wa f g u v sA).k (LK K N) := by
  intro i K N hN
  refine (sm_round lp m k ws sf nw sa wa f g u v i K).trans ?_
  show _ = T.k ((
  .chk (!decide (i < (↑(List.length nw) : Int)) || bif able_v0 k i u != 0 then rread_pre nw i v else read_pre m k ws sf i && (rread_pre nw i v && (0 != rread_v1 nw i v || isBytes (seg (now_v0 ws sf i) 0 128)))) (
   .br (!decide (i < (↑(List.length nw) : Int))) (.leaf (.inr ((some 0), mkF 59 [(0, AV.ptr (s61) 0 0 []), (3, AV.ptr (s32) 2 0 [])], [{ sh := s61, dyn := false, frz := false, v := AV.agg [AV.sref (Sh.arr Sh.one 128) 1 m [] 0 k, .dat (.slc (s67) ws), .dat (.int .i64 f), .dat (.bool u)] }, { sh := Sh.arr (Sh.arr Sh.one 128) 0, dyn := true, frz := false, v := .dat (.arr (Sh.arr Sh.one 128) sf) }, { sh := s32, dyn := false, frz := false, v := .dat (.agg [D.slc Sh.one nw, D.slc Sh.one sa, D.slc (Sh.agg [Sh.one, Sh.one]) wa, D.int .i64 g, D.bool v]) }]))) (
    .br (decide (i < (↑(List.length nw) : Int)) && (able_v0 k i u != 0 && (able_v0 k i u != rread_v1 nw i v || !decide ([] = Array.toList (ByteArray.data (rread_v0 nw i v)))))) (.leaf (.inr (none, mkF 59 [(4, .dat (.bool false))], [{ sh := s61, dyn := false, frz := false, v := AV.agg [AV.sref (Sh.arr Sh.one 128) 1 m [] 0 k, .dat (.slc (s67) ws), .dat (.int .i64 f), .dat (.bool u)] }, { sh := Sh.arr (Sh.arr Sh.one 128) 0, dyn := true, frz := false, v := .dat (.arr (Sh.arr Sh.one 128) sf) }, { sh := s32, dyn := false, frz := false, v := .dat (.agg [D.slc Sh.one nw, D.slc Sh.one sa, D.slc (Sh.agg [Sh.one, Sh.one]) wa, D.int .i64 g, D.bool v]) }]))) (
     .br (decide (i < (↑(List.length nw) : Int)) && (!able_v0 k i u != 0 && (0 != rread_v1 nw i v || !decide (byteVs (seg (now_v0 ws sf i) 0 128) = Array.toList (ByteArray.data (rread_v0 nw i v)))))) (.leaf (.inr (none, mkF 59 [(4, .dat (.bool false))], [{ sh := s61, dyn := false, frz := false, v := AV.agg [AV.sref (Sh.arr Sh.one 128) 1 m [] 0 k, .dat (.slc (s67) ws), .dat (.int .i64 f), .dat (.bool u)] }, { sh := Sh.arr (Sh.arr Sh.one 128) 0, dyn := true, frz := false, v := .dat (.arr (Sh.arr Sh.one 128) sf) }, { sh := s32, dyn := false, frz := false, v := .dat (.agg [D.slc Sh.one nw, D.slc Sh.one sa, D.slc (Sh.agg [Sh.one, Sh.one]) wa, D.int .i64 g, D.bool v]) }, { sh := Sh.arr Sh.one 128, dyn := false, frz := false, v := .dat (.arr Sh.one (now_v0 ws sf i)) }]))) (.leaf (.inl (IntKind.wrap IntKind.i64 (i + 1)))))))) : T (Int ⊕ LOut)) (LK K N)
  generalize (decide (byteVs (seg (now_v0 ws sf i) 0 128) = Array.toList (ByteArray.data (rread_v0 nw i v)))) = z0
  generalize (decide ([] = Array.toList (ByteArray.data (rread_v0 nw i v)))) = z1
  generalize (decide (i < (↑(List.length nw) : Int))) = z2
  generalize (isBytes (seg (now_v0 ws sf i) 0 128)) = z3
  generalize (able_v0 k i u != 0) = z4
  generalize (0 != rread_v1 nw i v) = z5
  generalize (able_v0 k i u != rread_v1 nw i v) = z6
  generalize (read_pre m k ws sf i) = z7
  generalize (rread_pre nw i v) = z8
  cases z2 with
  | true =>
   cases z4 with
   | true =>
    cases z8 with
    | true =>
     cases z6 with
     | true =>
      rfl
     | false =>
      cases z1 with
      | true =>
       exact hN _ _ _ (by kernel_rfl) (by kernel_rfl)
      | false =>
       rfl
    | false =>
     rfl
   | false =>
    cases z7 with
    | true =>
     cases z8 with
     | true =>
      cases z5 with
      | true =>
       rfl
      | false =>
       cases z3 with
       | true =>
        cases z0 with
        | true =>
         exact hN _ _ _ (by kernel_rfl) (by kernel_rfl)
        | false =>
         rfl
       | false =>
        rfl
     | false =>
      rfl
    | false =>
     rfl
  | false =>
   rfl
theorem sm_enter (m k : Nat) (ws sf nw sa wa : List D) (f g : Int) (u v : Bool) (i : Int) (fr : Frame') (hl : Nat.beq fr.length 59 = true) (g0 : fr.getD 0 .undef = AV.ptr (s61) 0 0 []) (g3 : fr.getD 3 .undef = AV.ptr (s32) 2 0 []) (g5 : fr.getD 5 .undef = .dat (.int .i64 i)) : cleanF (liveAt Try.f21 0) 0 fr = sm_fr m k ws sf nw sa wa f g u v i := by
  have e : liveAt Try.f21 0 = [5, 0, 3] := by kernel_rfl
  rw [clean_mk (Nat.eq_of_beq_eq_true hl), e]
  show mkF 59 [(5, fr.getD 5 .undef), (0, fr.getD 0 .undef), (3, fr.getD 3 .undef)] = _
  rw [g5, g0, g3]
  kernel_rfl
end Go.Proofs.Ythhipekbkodjoaa
