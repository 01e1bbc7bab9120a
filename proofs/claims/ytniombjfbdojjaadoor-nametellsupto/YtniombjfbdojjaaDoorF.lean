/- Seat 03: places, and no two the same. -/
import Derived.Test.YtniombjfbdojjaaDoorB
namespace Go.Proofs.YtniombjfbdojjaaDoor
open Go.AX
set_option maxRecDepth 100000
def ix_fr (ls : List D) (v : ByteArray) (n : Int) : Int → Frame' := fun i => mkF 19 [(0, .dat (.slc .one ls)), (1, .dat (.str v)), (7, .dat (.int .i64 n)), (8, .dat (.int .i64 i))]
def ix_st (_ls : List D) (_v : ByteArray) (_n : Int) : Int → Store := fun _ => []
def ix_step (ls : List D) (v : ByteArray) (n : Int) : Int → T (Int ⊕ LOut) := fun i =>
  .chk (!decide (i < n) || decide (0 ≤ i) && (decide (Int.toNat i < List.length ls) && okE Ek.str (nthD ls (Int.toNat i)))) (
   .br (!decide (i < n)) (.leaf (.inr ((some 0), mkF 19 [], []))) (
    .br (decide (i < n) && decide (Array.toList (ByteArray.data v) = Array.toList (ByteArray.data (D.getS (nthD ls (Int.toNat i)))))) (.leaf (.inr (none, mkF 19 [(4, .dat (.int .i64 i))], []))) (.leaf (.inl (IntKind.wrap IntKind.i64 (i + 1))))))
theorem ix_round (lp : Loops) (ls : List D) (v : ByteArray) (n : Int) (i : Int) (K : Kt) : oneRound (envOf tab [] [] lp []) Tryd.f25 0 (0) (mkF 19 [(0, .dat (.slc .one ls)), (1, .dat (.str v)), (7, .dat (.int .i64 n)), (8, .dat (.int .i64 i))]) ([]) K =
  (bif decide (i < n) then
   (bif decide (0 ≤ i) then
    (bif decide (Int.toNat i < List.length ls) then
     (bif okE Ek.str (nthD ls (Int.toNat i)) then
      (bif decide (Array.toList (ByteArray.data v) = Array.toList (ByteArray.data (D.getS (nthD ls (Int.toNat i))))) then K (Exit.ret) (mkF 19 [(4, .dat (.int .i64 i))]) ([]) else K (Exit.normal) (mkF 19 [(0, .dat (.slc Sh.one ls)), (1, .dat (.str v)), (7, .dat (.int .i64 n)), (8, .dat (.int .i64 (IntKind.wrap IntKind.i64 (i + 1)))), (9, .dat (.bool (decide (i < n)))), (18, .dat (.int .i64 (IntKind.wrap IntKind.i64 (i + 1))))]) ([])) else none) else none) else none) else K (Exit.exit 0) (mkF 19 []) ([])) := by kernel_rfl
theorem ix_hr (lp : Loops) (ls : List D) (v : ByteArray) (n : Int) : ∀ (sA : Int) (K : Kt) (N : Int → Option Res), (∀ sB fr' σ', cleanF (liveAt Tryd.f25 0) 0 fr' = ix_fr ls v n sB → trim (0) (ix_fr ls v n sB) σ' = ix_st ls v n sB → K .normal fr' σ' = N sB) →
    oneRound (envOf tab [] [] lp []) Tryd.f25 0 (0) (ix_fr ls v n sA) (ix_st ls v n sA) K = (ix_step ls v n sA).k (LK K N) := by
  intro i K N hN
  refine (ix_round lp ls v n i K).trans ?_
  show _ = T.k ((
  .chk (!decide (i < n) || decide (0 ≤ i) && (decide (Int.toNat i < List.length ls) && okE Ek.str (nthD ls (Int.toNat i)))) (
   .br (!decide (i < n)) (.leaf (.inr ((some 0), mkF 19 [], []))) (
    .br (decide (i < n) && decide (Array.toList (ByteArray.data v) = Array.toList (ByteArray.data (D.getS (nthD ls (Int.toNat i)))))) (.leaf (.inr (none, mkF 19 [(4, .dat (.int .i64 i))], []))) (.leaf (.inl (IntKind.wrap IntKind.i64 (i + 1))))))) : T (Int ⊕ LOut)) (LK K N)
  generalize (decide (Array.toList (ByteArray.data v) = Array.toList (ByteArray.data (D.getS (nthD ls (Int.toNat i)))))) = z0
  generalize (decide (0 ≤ i)) = z1
  generalize (decide (Int.toNat i < List.length ls)) = z2
  generalize (decide (i < n)) = z3
  generalize (okE Ek.str (nthD ls (Int.toNat i))) = z4
  cases z3 with
  | true =>
   cases z1 with
   | true =>
    cases z2 with
    | true =>
     cases z4 with
     | true =>
      cases z0 with
      | true =>
       rfl
      | false =>
       exact hN _ _ _ (by kernel_rfl) (by kernel_rfl)
     | false =>
      rfl
    | false =>
     rfl
   | false =>
    rfl
  | false =>
   rfl
theorem ix_enter (ls : List D) (v : ByteArray) (n : Int) (i : Int) (fr : Frame') (hl : Nat.beq fr.length 19 = true) (g0 : fr.getD 0 .undef = .dat (.slc Sh.one ls)) (g1 : fr.getD 1 .undef = .dat (.str v)) (g7 : fr.getD 7 .undef = .dat (.int .i64 n)) (g8 : fr.getD 8 .undef = .dat (.int .i64 i)) : cleanF (liveAt Tryd.f25 0) 0 fr = ix_fr ls v n i := by
  have e : liveAt Tryd.f25 0 = [7, 1, 0, 8] := by kernel_rfl
  rw [clean_mk (Nat.eq_of_beq_eq_true hl), e]
  show mkF 19 [(7, fr.getD 7 .undef), (1, fr.getD 1 .undef), (0, fr.getD 0 .undef), (8, fr.getD 8 .undef)] = _
  rw [g7, g1, g0, g8]
  kernel_rfl
def rx_fr (ls : List D) (v : ByteArray) : Int → Frame' := fun i => mkF 19 [(0, .dat (.slc .one ls)), (1, .dat (.str v)), (5, .dat (.int .i64 i))]
def rx_st (_ls : List D) (_v : ByteArray) : Int → Store := fun _ => []
def rx_step (ls : List D) (v : ByteArray) : Int → T (Int ⊕ LOut) := fun i =>
  .chk (!decide (i < (↑(List.length ls) : Int)) || decide (0 ≤ i) && (decide (Int.toNat i < List.length ls) && okE Ek.str (nthD ls (Int.toNat i)))) (
   .br (!decide (i < (↑(List.length ls) : Int))) (.leaf (.inr ((some 0), mkF 19 [], []))) (
    .br (decide (i < (↑(List.length ls) : Int)) && decide (Array.toList (ByteArray.data (D.getS (nthD ls (Int.toNat i)))) = Array.toList (ByteArray.data v))) (.leaf (.inr (none, mkF 19 [(4, .dat (.int .i64 i))], []))) (.leaf (.inl (IntKind.wrap IntKind.i64 (i + 1))))))
theorem rx_round (lp : Loops) (ls : List D) (v : ByteArray) (i : Int) (K : Kt) : oneRound (envOf tab [] [] lp []) Tryd.f14 0 (0) (mkF 19 [(0, .dat (.slc .one ls)), (1, .dat (.str v)), (5, .dat (.int .i64 i))]) ([]) K =
  (bif decide (i < (↑(List.length ls) : Int)) then
   (bif decide (0 ≤ i) then
    (bif decide (Int.toNat i < List.length ls) then
     (bif okE Ek.str (nthD ls (Int.toNat i)) then
      (bif decide (Array.toList (ByteArray.data (D.getS (nthD ls (Int.toNat i)))) = Array.toList (ByteArray.data v)) then K (Exit.ret) (mkF 19 [(4, .dat (.int .i64 i))]) ([]) else K (Exit.normal) (mkF 19 [(0, .dat (.slc Sh.one ls)), (1, .dat (.str v)), (5, .dat (.int .i64 (IntKind.wrap IntKind.i64 (i + 1)))), (10, .dat (.int .i64 i)), (11, .dat (.int .i64 (IntKind.wrap IntKind.i64 (i + 1))))]) ([])) else none) else none) else none) else K (Exit.exit 0) (mkF 19 []) ([])) := by kernel_rfl
theorem rx_hr (lp : Loops) (ls : List D) (v : ByteArray) : ∀ (sA : Int) (K : Kt) (N : Int → Option Res), (∀ sB fr' σ', cleanF (liveAt Tryd.f14 0) 0 fr' = rx_fr ls v sB → trim (0) (rx_fr ls v sB) σ' = rx_st ls v sB → K .normal fr' σ' = N sB) →
    oneRound (envOf tab [] [] lp []) Tryd.f14 0 (0) (rx_fr ls v sA) (rx_st ls v sA) K = (rx_step ls v sA).k (LK K N) := by
  intro i K N hN
  refine (rx_round lp ls v i K).trans ?_
  show _ = T.k ((
  .chk (!decide (i < (↑(List.length ls) : Int)) || decide (0 ≤ i) && (decide (Int.toNat i < List.length ls) && okE Ek.str (nthD ls (Int.toNat i)))) (
   .br (!decide (i < (↑(List.length ls) : Int))) (.leaf (.inr ((some 0), mkF 19 [], []))) (
    .br (decide (i < (↑(List.length ls) : Int)) && decide (Array.toList (ByteArray.data (D.getS (nthD ls (Int.toNat i)))) = Array.toList (ByteArray.data v))) (.leaf (.inr (none, mkF 19 [(4, .dat (.int .i64 i))], []))) (.leaf (.inl (IntKind.wrap IntKind.i64 (i + 1))))))) : T (Int ⊕ LOut)) (LK K N)
  generalize (decide (Array.toList (ByteArray.data (D.getS (nthD ls (Int.toNat i)))) = Array.toList (ByteArray.data v))) = z0
  generalize (decide (i < (↑(List.length ls) : Int))) = z1
  generalize (decide (0 ≤ i)) = z2
  generalize (decide (Int.toNat i < List.length ls)) = z3
  generalize (okE Ek.str (nthD ls (Int.toNat i))) = z4
  cases z1 with
  | true =>
   cases z2 with
   | true =>
    cases z3 with
    | true =>
     cases z4 with
     | true =>
      cases z0 with
      | true =>
       rfl
      | false =>
       exact hN _ _ _ (by kernel_rfl) (by kernel_rfl)
     | false =>
      rfl
    | false =>
     rfl
   | false =>
    rfl
  | false =>
   rfl
theorem rx_enter (ls : List D) (v : ByteArray) (i : Int) (fr : Frame') (hl : Nat.beq fr.length 19 = true) (g0 : fr.getD 0 .undef = .dat (.slc Sh.one ls)) (g1 : fr.getD 1 .undef = .dat (.str v)) (g5 : fr.getD 5 .undef = .dat (.int .i64 i)) : cleanF (liveAt Tryd.f14 0) 0 fr = rx_fr ls v i := by
  have e : liveAt Tryd.f14 0 = [0, 1, 5] := by kernel_rfl
  rw [clean_mk (Nat.eq_of_beq_eq_true hl), e]
  show mkF 19 [(0, fr.getD 0 .undef), (1, fr.getD 1 .undef), (5, fr.getD 5 .undef)] = _
  rw [g0, g1, g5]
  kernel_rfl
def ap_fr (ls l0 : List D) (n : Int) : (Int × List D) → Frame' := fun ⟨i, _⟩ => mkF 23 [(0, .dat (.slc .one l0)), (3, .hnd mapSh 0), (7, .dat (.slc .one ls)), (8, .dat (.int .i64 n)), (9, .dat (.int .i64 i))]
def ap_st (_ls _l0 : List D) (_n : Int) : (Int × List D) → Store := fun ⟨_, ds⟩ => [mapBlk ds]
def ap_step (ls l0 : List D) (n : Int) : (Int × List D) → T ((Int × List D) ⊕ LOut) := fun ⟨i, ds⟩ =>
  .chk (!decide (i < n) || decide (0 ≤ i) && (decide (Int.toNat i < List.length ls) && (okE Ek.str (nthD ls (Int.toNat i)) && List.all ds (entOkD (Prod.fst (TyI.ty { ty := Ty.str, sh := Sh.one, bytes := 16, zero := .dat (.str ByteArray.empty), eqv := false }, 0)))))) (
   .br (!decide (i < n)) (.leaf (.inr ((some 0), mkF 23 [(0, .dat (.slc Sh.one l0)), (3, AV.hnd (Sh.arr (Sh.agg []) 2) 0)], [{ sh := Sh.arr (Sh.agg []) 2, dyn := false, frz := false, v := .dat (.slc (Sh.agg [Sh.one, Sh.one]) ds) }]))) (.leaf (.inl ((IntKind.wrap IntKind.i64 (i + 1)), (mapPut (D.str (D.getS (nthD ls (Int.toNat i)))) (D.int .i64 (IntKind.wrap IntKind.i64 (mapGet 0 (D.str (D.getS (nthD ls (Int.toNat i)))) ds + 1))) ds)))))
theorem ap_round (lp : Loops) (ls l0 : List D) (n : Int) (i : Int) (ds : List D) (K : Kt) : oneRound (envOf tab [] [] lp []) Tryd.f15 0 (1) (mkF 23 [(0, .dat (.slc .one l0)), (3, .hnd mapSh 0), (7, .dat (.slc .one ls)), (8, .dat (.int .i64 n)), (9, .dat (.int .i64 i))]) ([mapBlk ds]) K =
  (bif decide (i < n) then
   (bif decide (0 ≤ i) then
    (bif decide (Int.toNat i < List.length ls) then
     (bif okE Ek.str (nthD ls (Int.toNat i)) then
      (bif List.all ds (entOkD (Prod.fst (TyI.ty { ty := Ty.str, sh := Sh.one, bytes := 16, zero := .dat (.str ByteArray.empty), eqv := false }, 0))) then
       (bif List.all ds (entOkD (Prod.fst (TyI.ty { ty := Ty.str, sh := Sh.one, bytes := 16, zero := .dat (.str ByteArray.empty), eqv := false }, 0))) then K (Exit.normal) (mkF 23 [(0, .dat (.slc Sh.one l0)), (3, AV.hnd (Sh.arr (Sh.agg []) 2) 0), (7, .dat (.slc Sh.one ls)), (8, .dat (.int .i64 n)), (9, .dat (.int .i64 (IntKind.wrap IntKind.i64 (i + 1)))), (10, .dat (.bool (decide (i < n)))), (17, .dat (.int .i64 (IntKind.wrap IntKind.i64 (i + 1))))]) ([{ sh := Sh.arr (Sh.agg []) 2, dyn := false, frz := false, v := .dat (.slc (Sh.agg [Sh.one, Sh.one]) (mapPut (D.str (D.getS (nthD ls (Int.toNat i)))) (D.int .i64 (IntKind.wrap IntKind.i64 (mapGet 0 (D.str (D.getS (nthD ls (Int.toNat i)))) ds + 1))) ds)) }]) else none) else none) else none) else none) else none) else K (Exit.exit 0) (mkF 23 [(0, .dat (.slc Sh.one l0)), (3, AV.hnd (Sh.arr (Sh.agg []) 2) 0)]) ([{ sh := Sh.arr (Sh.agg []) 2, dyn := false, frz := false, v := .dat (.slc (Sh.agg [Sh.one, Sh.one]) ds) }])) := by kernel_rfl
theorem ap_hr (lp : Loops) (ls l0 : List D) (n : Int) : ∀ (sA : (Int × List D)) (K : Kt) (N : (Int × List D) → Option Res), (∀ sB fr' σ', cleanF (liveAt Tryd.f15 0) 0 fr' = ap_fr ls l0 n sB → trim (1) (ap_fr ls l0 n sB) σ' = ap_st ls l0 n sB → K .normal fr' σ' = N sB) →
    oneRound (envOf tab [] [] lp []) Tryd.f15 0 (1) (ap_fr ls l0 n sA) (ap_st ls l0 n sA) K = (ap_step ls l0 n sA).k (LK K N) := by
  intro sA K N hN
  obtain ⟨i, ds⟩ := sA
  refine (ap_round lp ls l0 n i ds K).trans ?_
  show _ = T.k ((
  .chk (!decide (i < n) || decide (0 ≤ i) && (decide (Int.toNat i < List.length ls) && (okE Ek.str (nthD ls (Int.toNat i)) && List.all ds (entOkD (Prod.fst (TyI.ty { ty := Ty.str, sh := Sh.one, bytes := 16, zero := .dat (.str ByteArray.empty), eqv := false }, 0)))))) (
   .br (!decide (i < n)) (.leaf (.inr ((some 0), mkF 23 [(0, .dat (.slc Sh.one l0)), (3, AV.hnd (Sh.arr (Sh.agg []) 2) 0)], [{ sh := Sh.arr (Sh.agg []) 2, dyn := false, frz := false, v := .dat (.slc (Sh.agg [Sh.one, Sh.one]) ds) }]))) (.leaf (.inl ((IntKind.wrap IntKind.i64 (i + 1)), (mapPut (D.str (D.getS (nthD ls (Int.toNat i)))) (D.int .i64 (IntKind.wrap IntKind.i64 (mapGet 0 (D.str (D.getS (nthD ls (Int.toNat i)))) ds + 1))) ds)))))) : T ((Int × List D) ⊕ LOut)) (LK K N)
  generalize (List.all ds (entOkD (Prod.fst (TyI.ty { ty := Ty.str, sh := Sh.one, bytes := 16, zero := .dat (.str ByteArray.empty), eqv := false }, 0)))) = z0
  generalize (decide (0 ≤ i)) = z1
  generalize (decide (Int.toNat i < List.length ls)) = z2
  generalize (decide (i < n)) = z3
  generalize (okE Ek.str (nthD ls (Int.toNat i))) = z4
  cases z3 with
  | true =>
   cases z1 with
   | true =>
    cases z2 with
    | true =>
     cases z4 with
     | true =>
      cases z0 with
      | true =>
       exact hN _ _ _ (by kernel_rfl) (by kernel_rfl)
      | false =>
       rfl
     | false =>
      rfl
    | false =>
     rfl
   | false =>
    rfl
  | false =>
   rfl
theorem ap_enter (ls l0 : List D) (n : Int) (i : Int) (ds : List D) (fr : Frame') (hl : Nat.beq fr.length 23 = true) (g0 : fr.getD 0 .undef = .dat (.slc Sh.one l0)) (g3 : fr.getD 3 .undef = AV.hnd (Sh.arr (Sh.agg []) 2) 0) (g7 : fr.getD 7 .undef = .dat (.slc Sh.one ls)) (g8 : fr.getD 8 .undef = .dat (.int .i64 n)) (g9 : fr.getD 9 .undef = .dat (.int .i64 i)) : cleanF (liveAt Tryd.f15 0) 0 fr = ap_fr ls l0 n (i, ds) := by
  have e : liveAt Tryd.f15 0 = [8, 7, 9, 3, 0] := by kernel_rfl
  rw [clean_mk (Nat.eq_of_beq_eq_true hl), e]
  show mkF 23 [(8, fr.getD 8 .undef), (7, fr.getD 7 .undef), (9, fr.getD 9 .undef), (3, fr.getD 3 .undef), (0, fr.getD 0 .undef)] = _
  rw [g8, g7, g9, g3, g0]
  kernel_rfl
end Go.Proofs.YtniombjfbdojjaaDoor
