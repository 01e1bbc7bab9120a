/- Seat 03: the document's rounds; the fixed calls. -/
import Derived.Test.YtniombjfbdojjaaDoorG
import Derived.Test.YtniombjfbdojjaaDoorD
namespace Go.Proofs.YtniombjfbdojjaaDoor
open Go.AX
set_option maxRecDepth 100000
def ra_fr (ls : List D) : Int → Frame' := fun i => mkF 18 [(0, .dat (.slc .one ls)), (3, .dat (.int .i64 i))]
def ra_st (_ls : List D) : Int → Store := fun _ => []
def ra_step (ls : List D) : Int → T (Int ⊕ LOut) := fun i =>
  .chk (!decide (i < (↑(List.length ls) : Int)) || decide (0 ≤ i) && (decide (Int.toNat i < List.length ls) && (okE Ek.str (nthD ls (Int.toNat i)) && okSt ls))) (
   .br (!decide (i < (↑(List.length ls) : Int))) (.leaf (.inr ((some 0), mkF 18 [], []))) (
    .br (decide (i < (↑(List.length ls) : Int)) && rindex_v0 ls (D.getS (nthD ls (Int.toNat i))) != i) (.leaf (.inr (none, mkF 18 [(2, .dat (.bool false))], []))) (.leaf (.inl (IntKind.wrap IntKind.i64 (i + 1))))))
theorem ra_round (lp : Loops) (ls : List D) (i : Int) (K : Kt) : oneRound (envOf tab [(14, C_rindex)] [] lp []) Tryd.f16 0 (0) (mkF 18 [(0, .dat (.slc .one ls)), (3, .dat (.int .i64 i))]) ([]) K =
  (bif decide (i < (↑(List.length ls) : Int)) then
   (bif decide (0 ≤ i) then
    (bif decide (Int.toNat i < List.length ls) then
     (bif okE Ek.str (nthD ls (Int.toNat i)) then
      (bif okSt ls then
       (bif rindex_v0 ls (D.getS (nthD ls (Int.toNat i))) != i then K (Exit.ret) (mkF 18 [(2, .dat (.bool false))]) ([]) else K (Exit.normal) (mkF 18 [(0, .dat (.slc Sh.one ls)), (3, .dat (.int .i64 (IntKind.wrap IntKind.i64 (i + 1)))), (8, .dat (.int .i64 i)), (9, .dat (.int .i64 (IntKind.wrap IntKind.i64 (i + 1))))]) ([])) else none) else none) else none) else none) else K (Exit.exit 0) (mkF 18 []) ([])) := by kernel_rfl
theorem ra_hr (lp : Loops) (ls : List D) : ∀ (sA : Int) (K : Kt) (N : Int → Option Res), (∀ sB fr' σ', cleanF (liveAt Tryd.f16 0) 0 fr' = ra_fr ls sB → trim (0) (ra_fr ls sB) σ' = ra_st ls sB → K .normal fr' σ' = N sB) →
    oneRound (envOf tab [(14, C_rindex)] [] lp []) Tryd.f16 0 (0) (ra_fr ls sA) (ra_st ls sA) K = (ra_step ls sA).k (LK K N) := by
  intro i K N hN
  refine (ra_round lp ls i K).trans ?_
  show _ = T.k ((
  .chk (!decide (i < (↑(List.length ls) : Int)) || decide (0 ≤ i) && (decide (Int.toNat i < List.length ls) && (okE Ek.str (nthD ls (Int.toNat i)) && okSt ls))) (
   .br (!decide (i < (↑(List.length ls) : Int))) (.leaf (.inr ((some 0), mkF 18 [], []))) (
    .br (decide (i < (↑(List.length ls) : Int)) && rindex_v0 ls (D.getS (nthD ls (Int.toNat i))) != i) (.leaf (.inr (none, mkF 18 [(2, .dat (.bool false))], []))) (.leaf (.inl (IntKind.wrap IntKind.i64 (i + 1))))))) : T (Int ⊕ LOut)) (LK K N)
  generalize (decide (i < (↑(List.length ls) : Int))) = z0
  generalize (decide (0 ≤ i)) = z1
  generalize (decide (Int.toNat i < List.length ls)) = z2
  generalize (rindex_v0 ls (D.getS (nthD ls (Int.toNat i))) != i) = z3
  generalize (okE Ek.str (nthD ls (Int.toNat i))) = z4
  generalize (okSt ls) = z5
  cases z0 with
  | true =>
   cases z1 with
   | true =>
    cases z2 with
    | true =>
     cases z4 with
     | true =>
      cases z5 with
      | true =>
       cases z3 with
       | true =>
        rfl
       | false =>
        exact hN _ _ _ (by kernel_rfl) (by kernel_rfl)
      | false =>
       rfl
     | false =>
      rfl
    | false =>
     rfl
   | false =>
    rfl
  | false =>
   rfl
theorem ra_enter (ls : List D) (i : Int) (fr : Frame') (hl : Nat.beq fr.length 18 = true) (g0 : fr.getD 0 .undef = .dat (.slc Sh.one ls)) (g3 : fr.getD 3 .undef = .dat (.int .i64 i)) : cleanF (liveAt Tryd.f16 0) 0 fr = ra_fr ls i := by
  have e : liveAt Tryd.f16 0 = [0, 3] := by kernel_rfl
  rw [clean_mk (Nat.eq_of_beq_eq_true hl), e]
  show mkF 18 [(0, fr.getD 0 .undef), (3, fr.getD 3 .undef)] = _
  rw [g0, g3]
  kernel_rfl
def rr_fr (s : ByteArray) : Int → Frame' := fun i => mkF 47 [(0, .dat (.str s)), (3, .dat (.int .i64 i))]
def rr_st (_s : ByteArray) : Int → Store := fun _ => []
def rr_u2 (s : ByteArray) := Array.toList (ByteArray.data s)
def rr_u0 (s : ByteArray) (i : Int) := UInt8.toNat (strAt s (Int.toNat i))
def rr_u3 := mkF 47 [(2, .dat (.bool false))]
def rr_step (s : ByteArray) : Int → T (Int ⊕ LOut) := fun i =>
  .chk (!decide (i < (↑(ByteArray.size s) : Int)) || decide (0 ≤ i) && decide (Int.toNat i < List.length (rr_u2 s))) (
   .br (!decide (i < (↑(ByteArray.size s) : Int))) (.leaf (.inr ((some 0), mkF 47 [], []))) (
    .br (decide (i < (↑(ByteArray.size s) : Int)) && bif decide (97 ≤ (↑(rr_u0 s i) : Int)) then !decide ((↑(rr_u0 s i) : Int) ≤ 122) && (i == 0 || (decide ((↑(rr_u0 s i) : Int) < 48) || decide (57 < (↑(rr_u0 s i) : Int)))) else i == 0 || (decide ((↑(rr_u0 s i) : Int) < 48) || decide (57 < (↑(rr_u0 s i) : Int)))) (.leaf (.inr (none, rr_u3, []))) (.leaf (.inl (IntKind.wrap IntKind.i64 (i + 1))))))
def rr_u1 (s : ByteArray) (i : Int) := mkF 47 [(0, .dat (.str s)), (3, .dat (.int .i64 (IntKind.wrap IntKind.i64 (i + 1)))), (17, .dat (.int .i64 i)), (18, .dat (.int .i64 (IntKind.wrap IntKind.i64 (i + 1))))]
theorem rr_round (lp : Loops) (s : ByteArray) (i : Int) (K : Kt) : oneRound (envOf tab [] [] lp []) Tryd.f8 0 (0) (mkF 47 [(0, .dat (.str s)), (3, .dat (.int .i64 i))]) ([]) K =
  (bif decide (i < (↑(ByteArray.size s) : Int)) then
   (bif decide (0 ≤ i) then
    (bif decide (Int.toNat i < List.length (rr_u2 s)) then
     (bif decide ((↑(rr_u0 s i) : Int) ≥ 97) then
      (bif decide (0 ≤ i) then
       (bif decide (Int.toNat i < List.length (rr_u2 s)) then
        (bif !decide ((↑(rr_u0 s i) : Int) ≤ 122) then
         (bif i == 0 then K (Exit.ret) rr_u3 ([]) else
          (bif decide (0 ≤ i) then
           (bif decide (Int.toNat i < List.length (rr_u2 s)) then
            (bif decide ((↑(rr_u0 s i) : Int) < 48) then K (Exit.ret) rr_u3 ([]) else
             (bif decide (0 ≤ i) then
              (bif decide (Int.toNat i < List.length (rr_u2 s)) then
               (bif decide ((↑(rr_u0 s i) : Int) > 57) then K (Exit.ret) rr_u3 ([]) else K (Exit.normal) (rr_u1 s i) ([])) else none) else none)) else none) else none)) else K (Exit.normal) (rr_u1 s i) ([])) else none) else none) else
      (bif i == 0 then K (Exit.ret) rr_u3 ([]) else
       (bif decide (0 ≤ i) then
        (bif decide (Int.toNat i < List.length (rr_u2 s)) then
         (bif decide ((↑(rr_u0 s i) : Int) < 48) then K (Exit.ret) rr_u3 ([]) else
          (bif decide (0 ≤ i) then
           (bif decide (Int.toNat i < List.length (rr_u2 s)) then
            (bif decide ((↑(rr_u0 s i) : Int) > 57) then K (Exit.ret) rr_u3 ([]) else K (Exit.normal) (rr_u1 s i) ([])) else none) else none)) else none) else none))) else none) else none) else K (Exit.exit 0) (mkF 47 []) ([])) := by kernel_rfl
theorem rr_hr (lp : Loops) (s : ByteArray) : ∀ (sA : Int) (K : Kt) (N : Int → Option Res), (∀ sB fr' σ', cleanF (liveAt Tryd.f8 0) 0 fr' = rr_fr s sB → trim (0) (rr_fr s sB) σ' = rr_st s sB → K .normal fr' σ' = N sB) →
    oneRound (envOf tab [] [] lp []) Tryd.f8 0 (0) (rr_fr s sA) (rr_st s sA) K = (rr_step s sA).k (LK K N) := by
  intro i K N hN
  refine (rr_round lp s i K).trans ?_
  show _ = T.k ((
  .chk (!decide (i < (↑(ByteArray.size s) : Int)) || decide (0 ≤ i) && decide (Int.toNat i < List.length (rr_u2 s))) (
   .br (!decide (i < (↑(ByteArray.size s) : Int))) (.leaf (.inr ((some 0), mkF 47 [], []))) (
    .br (decide (i < (↑(ByteArray.size s) : Int)) && bif decide (97 ≤ (↑(rr_u0 s i) : Int)) then !decide ((↑(rr_u0 s i) : Int) ≤ 122) && (i == 0 || (decide ((↑(rr_u0 s i) : Int) < 48) || decide (57 < (↑(rr_u0 s i) : Int)))) else i == 0 || (decide ((↑(rr_u0 s i) : Int) < 48) || decide (57 < (↑(rr_u0 s i) : Int)))) (.leaf (.inr (none, rr_u3, []))) (.leaf (.inl (IntKind.wrap IntKind.i64 (i + 1))))))) : T (Int ⊕ LOut)) (LK K N)
  generalize (decide (57 < (↑(rr_u0 s i) : Int))) = z0
  generalize (decide (97 ≤ (↑(rr_u0 s i) : Int))) = z1
  generalize (decide ((↑(rr_u0 s i) : Int) < 48)) = z2
  generalize (decide ((↑(rr_u0 s i) : Int) ≤ 122)) = z3
  generalize (decide (Int.toNat i < List.length (rr_u2 s))) = z4
  generalize (decide (0 ≤ i)) = z5
  generalize (decide (i < (↑(ByteArray.size s) : Int))) = z6
  generalize (i == 0) = z7
  cases z6 with
  | true =>
   cases z5 with
   | true =>
    cases z4 with
    | true =>
     cases z1 with
     | true =>
      cases z3 with
      | true =>
       exact hN _ _ _ (by kernel_rfl) (by kernel_rfl)
      | false =>
       cases z7 with
       | true =>
        rfl
       | false =>
        cases z2 with
        | true =>
         rfl
        | false =>
         cases z0 with
         | true =>
          rfl
         | false =>
          exact hN _ _ _ (by kernel_rfl) (by kernel_rfl)
     | false =>
      cases z7 with
      | true =>
       rfl
      | false =>
       cases z2 with
       | true =>
        rfl
       | false =>
        cases z0 with
        | true =>
         rfl
        | false =>
         exact hN _ _ _ (by kernel_rfl) (by kernel_rfl)
    | false =>
     rfl
   | false =>
    rfl
  | false =>
   rfl
theorem rr_enter (s : ByteArray) (i : Int) (fr : Frame') (hl : Nat.beq fr.length 47 = true) (g0 : fr.getD 0 .undef = .dat (.str s)) (g3 : fr.getD 3 .undef = .dat (.int .i64 i)) : cleanF (liveAt Tryd.f8 0) 0 fr = rr_fr s i := by
  have e : liveAt Tryd.f8 0 = [0, 3] := by kernel_rfl
  rw [clean_mk (Nat.eq_of_beq_eq_true hl), e]
  show mkF 47 [(0, fr.getD 0 .undef), (3, fr.getD 3 .undef)] = _
  rw [g0, g3]
  kernel_rfl
def rt_fr (s : ByteArray) : Int → Frame' := fun i => mkF 36 [(0, .dat (.str s)), (3, .dat (.int .i64 i))]
def rt_st (_s : ByteArray) : Int → Store := fun _ => []
def rt_step (s : ByteArray) : Int → T (Int ⊕ LOut) := fun i =>
  .chk (!decide (i < (↑(ByteArray.size s) : Int)) || decide (0 ≤ i) && decide (Int.toNat i < List.length (Array.toList (ByteArray.data s)))) (
   .br (!decide (i < (↑(ByteArray.size s) : Int))) (.leaf (.inr ((some 0), mkF 36 [], []))) (
    .br (decide (i < (↑(ByteArray.size s) : Int)) && !rmay_v0 (↑(UInt8.toNat (strAt s (Int.toNat i))) : Int)) (.leaf (.inr (none, mkF 36 [(2, .dat (.bool false))], []))) (.leaf (.inl (IntKind.wrap IntKind.i64 (i + 1))))))
theorem rt_round (lp : Loops) (s : ByteArray) (i : Int) (K : Kt) : oneRound (envOf tab [(23, C_rmay)] [] lp []) Tryd.f10 0 (0) (mkF 36 [(0, .dat (.str s)), (3, .dat (.int .i64 i))]) ([]) K =
  (bif decide (i < (↑(ByteArray.size s) : Int)) then
   (bif decide (0 ≤ i) then
    (bif decide (Int.toNat i < List.length (Array.toList (ByteArray.data s))) then
     (bif !rmay_v0 (↑(UInt8.toNat (strAt s (Int.toNat i))) : Int) then K (Exit.ret) (mkF 36 [(2, .dat (.bool false))]) ([]) else K (Exit.normal) (mkF 36 [(0, .dat (.str s)), (3, .dat (.int .i64 (IntKind.wrap IntKind.i64 (i + 1)))), (29, .dat (.int .i64 i)), (30, .dat (.int .i64 (IntKind.wrap IntKind.i64 (i + 1))))]) ([])) else none) else none) else K (Exit.exit 0) (mkF 36 []) ([])) := by kernel_rfl
theorem rt_hr (lp : Loops) (s : ByteArray) : ∀ (sA : Int) (K : Kt) (N : Int → Option Res), (∀ sB fr' σ', cleanF (liveAt Tryd.f10 0) 0 fr' = rt_fr s sB → trim (0) (rt_fr s sB) σ' = rt_st s sB → K .normal fr' σ' = N sB) →
    oneRound (envOf tab [(23, C_rmay)] [] lp []) Tryd.f10 0 (0) (rt_fr s sA) (rt_st s sA) K = (rt_step s sA).k (LK K N) := by
  intro i K N hN
  refine (rt_round lp s i K).trans ?_
  show _ = T.k ((
  .chk (!decide (i < (↑(ByteArray.size s) : Int)) || decide (0 ≤ i) && decide (Int.toNat i < List.length (Array.toList (ByteArray.data s)))) (
   .br (!decide (i < (↑(ByteArray.size s) : Int))) (.leaf (.inr ((some 0), mkF 36 [], []))) (
    .br (decide (i < (↑(ByteArray.size s) : Int)) && !rmay_v0 (↑(UInt8.toNat (strAt s (Int.toNat i))) : Int)) (.leaf (.inr (none, mkF 36 [(2, .dat (.bool false))], []))) (.leaf (.inl (IntKind.wrap IntKind.i64 (i + 1))))))) : T (Int ⊕ LOut)) (LK K N)
  generalize (decide (Int.toNat i < List.length (Array.toList (ByteArray.data s)))) = z0
  generalize (decide (0 ≤ i)) = z1
  generalize (decide (i < (↑(ByteArray.size s) : Int))) = z2
  generalize (rmay_v0 (↑(UInt8.toNat (strAt s (Int.toNat i))) : Int)) = z3
  cases z2 with
  | true =>
   cases z1 with
   | true =>
    cases z0 with
    | true =>
     cases z3 with
     | true =>
      exact hN _ _ _ (by kernel_rfl) (by kernel_rfl)
     | false =>
      rfl
    | false =>
     rfl
   | false =>
    rfl
  | false =>
   rfl
theorem rt_enter (s : ByteArray) (i : Int) (fr : Frame') (hl : Nat.beq fr.length 36 = true) (g0 : fr.getD 0 .undef = .dat (.str s)) (g3 : fr.getD 3 .undef = .dat (.int .i64 i)) : cleanF (liveAt Tryd.f10 0) 0 fr = rt_fr s i := by
  have e : liveAt Tryd.f10 0 = [0, 3] := by kernel_rfl
  rw [clean_mk (Nat.eq_of_beq_eq_true hl), e]
  show mkF 36 [(0, fr.getD 0 .undef), (3, fr.getD 3 .undef)] = _
  rw [g0, g3]
  kernel_rfl
def rc_fr (s : ByteArray) : (Int × ByteArray) → Frame' := fun ⟨i, t⟩ => mkF 54 [(0, .dat (.str s)), (3, .dat (.str t)), (4, .dat (.int .i64 i))]
def rc_st (_s : ByteArray) : (Int × ByteArray) → Store := fun ⟨_, _⟩ => []
def rc_u2 (s : ByteArray) (i : Int) := UInt8.toNat (strAt s (Int.toNat i))
def rc_u0 (i : Int) := IntKind.wrap IntKind.i64 (i + 1)
def rc_u1 (s : ByteArray) (i : Int) := subStr s (Int.toNat i) (Int.toNat (rc_u0 i))
def rc_step (s : ByteArray) : (Int × ByteArray) → T ((Int × ByteArray) ⊕ LOut) := fun ⟨i, t⟩ =>
  .chk (!decide (i < (↑(ByteArray.size s) : Int)) || decide (0 ≤ i) && (decide (Int.toNat i < List.length (Array.toList (ByteArray.data s))) && (!rmay_v0 (↑(rc_u2 s i) : Int) || bif decide (Array.toList (ByteArray.data t) = []) then !(↑(rc_u2 s i) : Int) != 32 || decide (0 ≤ (rc_u0 i)) && (decide (Int.toNat i ≤ Int.toNat (rc_u0 i)) && decide (Int.toNat (rc_u0 i) ≤ ByteArray.size s) && decide (ByteArray.size t + ByteArray.size (rc_u1 s i) ≤ 35184372088832)) else decide (0 ≤ (rc_u0 i)) && (decide (Int.toNat i ≤ Int.toNat (rc_u0 i)) && decide (Int.toNat (rc_u0 i) ≤ ByteArray.size s) && decide (ByteArray.size t + ByteArray.size (rc_u1 s i) ≤ 35184372088832))))) (
   .br (!decide (i < (↑(ByteArray.size s) : Int))) (.leaf (.inr ((some 0), mkF 54 [(3, .dat (.str t))], []))) (.leaf (.inl ((rc_u0 i), (bif rmay_v0 (↑(rc_u2 s i) : Int) then bif decide (Array.toList (ByteArray.data t) = []) then bif (↑(rc_u2 s i) : Int) != 32 then catStr t (rc_u1 s i) else t else catStr t (rc_u1 s i) else t)))))
def rc_u3 (s : ByteArray) (i : Int) (t : ByteArray) := mkF 54 [(0, .dat (.str s)), (3, .dat (.str (catStr t (rc_u1 s i)))), (4, .dat (.int .i64 (rc_u0 i))), (9, .dat (.int .i64 i)), (10, .dat (.int .i64 (rc_u0 i)))]
theorem rc_round (lp : Loops) (s : ByteArray) (i : Int) (t : ByteArray) (K : Kt) : oneRound (envOf tab [(23, C_rmay)] [] lp []) Tryd.f12 0 (0) (mkF 54 [(0, .dat (.str s)), (3, .dat (.str t)), (4, .dat (.int .i64 i))]) ([]) K =
  (bif decide (i < (↑(ByteArray.size s) : Int)) then
   (bif decide (0 ≤ i) then
    (bif decide (Int.toNat i < List.length (Array.toList (ByteArray.data s))) then
     (bif rmay_v0 (↑(rc_u2 s i) : Int) then
      (bif !decide (Array.toList (ByteArray.data t) = []) then
       (bif decide (0 ≤ (rc_u0 i)) then
        (bif decide (0 ≤ i) then
         (bif decide (Int.toNat i ≤ Int.toNat (rc_u0 i)) && decide (Int.toNat (rc_u0 i) ≤ ByteArray.size s) then
          (bif decide (ByteArray.size t + ByteArray.size (rc_u1 s i) ≤ 35184372088832) then K (Exit.normal) (rc_u3 s i t) ([]) else none) else none) else none) else none) else
       (bif decide (0 ≤ i) then
        (bif decide (Int.toNat i < List.length (Array.toList (ByteArray.data s))) then
         (bif (↑(rc_u2 s i) : Int) != 32 then
          (bif decide (0 ≤ (rc_u0 i)) then
           (bif decide (0 ≤ i) then
            (bif decide (Int.toNat i ≤ Int.toNat (rc_u0 i)) && decide (Int.toNat (rc_u0 i) ≤ ByteArray.size s) then
             (bif decide (ByteArray.size t + ByteArray.size (rc_u1 s i) ≤ 35184372088832) then K (Exit.normal) (rc_u3 s i t) ([]) else none) else none) else none) else none) else K (Exit.normal) (mkF 54 [(0, .dat (.str s)), (3, .dat (.str t)), (4, .dat (.int .i64 (rc_u0 i))), (9, .dat (.int .i64 i)), (10, .dat (.int .i64 (rc_u0 i)))]) ([])) else none) else none)) else K (Exit.normal) (mkF 54 [(0, .dat (.str s)), (3, .dat (.str t)), (4, .dat (.int .i64 (rc_u0 i))), (9, .dat (.int .i64 i)), (10, .dat (.int .i64 (rc_u0 i)))]) ([])) else none) else none) else K (Exit.exit 0) (mkF 54 [(3, .dat (.str t))]) ([])) := by kernel_rfl
theorem rc_hr (lp : Loops) (s : ByteArray) : ∀ (sA : (Int × ByteArray)) (K : Kt) (N : (Int × ByteArray) → Option Res), (∀ sB fr' σ', cleanF (liveAt Tryd.f12 0) 0 fr' = rc_fr s sB → trim (0) (rc_fr s sB) σ' = rc_st s sB → K .normal fr' σ' = N sB) →
    oneRound (envOf tab [(23, C_rmay)] [] lp []) Tryd.f12 0 (0) (rc_fr s sA) (rc_st s sA) K = (rc_step s sA).k (LK K N) := by
  intro sA K N hN
  obtain ⟨i, t⟩ := sA
  refine (rc_round lp s i t K).trans ?_
  show _ = T.k ((
  .chk (!decide (i < (↑(ByteArray.size s) : Int)) || decide (0 ≤ i) && (decide (Int.toNat i < List.length (Array.toList (ByteArray.data s))) && (!rmay_v0 (↑(rc_u2 s i) : Int) || bif decide (Array.toList (ByteArray.data t) = []) then !(↑(rc_u2 s i) : Int) != 32 || decide (0 ≤ (rc_u0 i)) && (decide (Int.toNat i ≤ Int.toNat (rc_u0 i)) && decide (Int.toNat (rc_u0 i) ≤ ByteArray.size s) && decide (ByteArray.size t + ByteArray.size (rc_u1 s i) ≤ 35184372088832)) else decide (0 ≤ (rc_u0 i)) && (decide (Int.toNat i ≤ Int.toNat (rc_u0 i)) && decide (Int.toNat (rc_u0 i) ≤ ByteArray.size s) && decide (ByteArray.size t + ByteArray.size (rc_u1 s i) ≤ 35184372088832))))) (
   .br (!decide (i < (↑(ByteArray.size s) : Int))) (.leaf (.inr ((some 0), mkF 54 [(3, .dat (.str t))], []))) (.leaf (.inl ((rc_u0 i), (bif rmay_v0 (↑(rc_u2 s i) : Int) then bif decide (Array.toList (ByteArray.data t) = []) then bif (↑(rc_u2 s i) : Int) != 32 then catStr t (rc_u1 s i) else t else catStr t (rc_u1 s i) else t)))))) : T ((Int × ByteArray) ⊕ LOut)) (LK K N)
  generalize (decide (Int.toNat i ≤ Int.toNat (rc_u0 i)) && decide (Int.toNat (rc_u0 i) ≤ ByteArray.size s)) = z0
  generalize (decide (ByteArray.size t + ByteArray.size (rc_u1 s i) ≤ 35184372088832)) = z1
  generalize (decide (0 ≤ (rc_u0 i))) = z2
  generalize (decide (Int.toNat i < List.length (Array.toList (ByteArray.data s)))) = z3
  generalize ((↑(rc_u2 s i) : Int) != 32) = z4
  generalize (decide (i < (↑(ByteArray.size s) : Int))) = z5
  generalize (decide (0 ≤ i)) = z6
  generalize (decide (Array.toList (ByteArray.data t) = [])) = z7
  generalize (rmay_v0 (↑(rc_u2 s i) : Int)) = z8
  cases z5 with
  | true =>
   cases z6 with
   | true =>
    cases z3 with
    | true =>
     cases z8 with
     | true =>
      cases z7 with
      | true =>
       cases z4 with
       | true =>
        cases z2 with
        | true =>
         cases z0 with
         | true =>
          cases z1 with
          | true =>
           exact hN _ _ _ (by kernel_rfl) (by kernel_rfl)
          | false =>
           rfl
         | false =>
          rfl
        | false =>
         rfl
       | false =>
        exact hN _ _ _ (by kernel_rfl) (by kernel_rfl)
      | false =>
       cases z2 with
       | true =>
        cases z0 with
        | true =>
         cases z1 with
         | true =>
          exact hN _ _ _ (by kernel_rfl) (by kernel_rfl)
         | false =>
          rfl
        | false =>
         rfl
       | false =>
        rfl
     | false =>
      exact hN _ _ _ (by kernel_rfl) (by kernel_rfl)
    | false =>
     rfl
   | false =>
    rfl
  | false =>
   rfl
theorem rc_enter (s : ByteArray) (i : Int) (t : ByteArray) (fr : Frame') (hl : Nat.beq fr.length 54 = true) (g0 : fr.getD 0 .undef = .dat (.str s)) (g3 : fr.getD 3 .undef = .dat (.str t)) (g4 : fr.getD 4 .undef = .dat (.int .i64 i)) : cleanF (liveAt Tryd.f12 0) 0 fr = rc_fr s (i, t) := by
  have e : liveAt Tryd.f12 0 = [0, 4, 3] := by kernel_rfl
  rw [clean_mk (Nat.eq_of_beq_eq_true hl), e]
  show mkF 54 [(0, fr.getD 0 .undef), (4, fr.getD 4 .undef), (3, fr.getD 3 .undef)] = _
  rw [g0, g4, g3]
  kernel_rfl
def rd_fr  : ByteArray → Frame' := fun t => mkF 54 [(3, .dat (.str t))]
def rd_st  : ByteArray → Store := fun _ => []
def rd_u0 (t : ByteArray) := IntKind.wrap IntKind.i64 ((↑(ByteArray.size t) : Int) - 1)
def rd_u1 (t : ByteArray) := UInt8.toNat (strAt t (Int.toNat (rd_u0 t)))
def rd_step  : ByteArray → T (ByteArray ⊕ LOut) := fun t =>
  .chk (!decide (0 < (↑(ByteArray.size t) : Int)) || decide (0 ≤ (rd_u0 t)) && (decide (Int.toNat (rd_u0 t) < List.length (Array.toList (ByteArray.data t))) && (!(↑(rd_u1 t) : Int) == 32 || decide (Int.toNat (rd_u0 t) ≤ ByteArray.size t)))) (
   .br (!decide (0 < (↑(ByteArray.size t) : Int)) || !(↑(rd_u1 t) : Int) == 32) (.leaf (.inr ((some 2), mkF 54 [(3, .dat (.str t))], []))) (.leaf (.inl (subStr t 0 (Int.toNat (rd_u0 t))))))
theorem rd_round (lp : Loops)  (t : ByteArray) (K : Kt) : oneRound (envOf tab [(23, C_rmay)] [] lp []) Tryd.f12 1 (0) (mkF 54 [(3, .dat (.str t))]) ([]) K =
  (bif decide ((↑(ByteArray.size t) : Int) > 0) then
   (bif decide (0 ≤ (rd_u0 t)) then
    (bif decide (Int.toNat (rd_u0 t) < List.length (Array.toList (ByteArray.data t))) then
     (bif (↑(rd_u1 t) : Int) == 32 then
      (bif decide (0 ≤ (rd_u0 t)) then
       (bif decide (Int.toNat (rd_u0 t) ≤ ByteArray.size t) then K (Exit.normal) (mkF 54 [(3, .dat (.str (subStr t 0 (Int.toNat (rd_u0 t))))), (48, .dat (.str t)), (49, .dat (.str t)), (50, .dat (.int .i64 (↑(ByteArray.size t) : Int))), (51, .dat (.int .i64 (rd_u0 t))), (52, .dat (.str (subStr t 0 (Int.toNat (rd_u0 t)))))]) ([]) else none) else none) else K (Exit.exit 2) (mkF 54 [(3, .dat (.str t))]) ([])) else none) else none) else K (Exit.exit 2) (mkF 54 [(3, .dat (.str t))]) ([])) := by kernel_rfl
theorem rd_hr (lp : Loops)  : ∀ (sA : ByteArray) (K : Kt) (N : ByteArray → Option Res), (∀ sB fr' σ', cleanF (liveAt Tryd.f12 1) 0 fr' = rd_fr sB → trim (0) (rd_fr sB) σ' = rd_st sB → K .normal fr' σ' = N sB) →
    oneRound (envOf tab [(23, C_rmay)] [] lp []) Tryd.f12 1 (0) (rd_fr sA) (rd_st sA) K = (rd_step sA).k (LK K N) := by
  intro t K N hN
  refine (rd_round lp t K).trans ?_
  show _ = T.k ((
  .chk (!decide (0 < (↑(ByteArray.size t) : Int)) || decide (0 ≤ (rd_u0 t)) && (decide (Int.toNat (rd_u0 t) < List.length (Array.toList (ByteArray.data t))) && (!(↑(rd_u1 t) : Int) == 32 || decide (Int.toNat (rd_u0 t) ≤ ByteArray.size t)))) (
   .br (!decide (0 < (↑(ByteArray.size t) : Int)) || !(↑(rd_u1 t) : Int) == 32) (.leaf (.inr ((some 2), mkF 54 [(3, .dat (.str t))], []))) (.leaf (.inl (subStr t 0 (Int.toNat (rd_u0 t))))))) : T (ByteArray ⊕ LOut)) (LK K N)
  generalize (decide (Int.toNat (rd_u0 t) < List.length (Array.toList (ByteArray.data t)))) = z0
  generalize (decide (0 ≤ (rd_u0 t))) = z1
  generalize (decide (Int.toNat (rd_u0 t) ≤ ByteArray.size t)) = z2
  generalize ((↑(rd_u1 t) : Int) == 32) = z3
  generalize (decide (0 < (↑(ByteArray.size t) : Int))) = z4
  cases z4 with
  | true =>
   cases z1 with
   | true =>
    cases z0 with
    | true =>
     cases z3 with
     | true =>
      cases z2 with
      | true =>
       exact hN _ _ _ (by kernel_rfl) (by kernel_rfl)
      | false =>
       rfl
     | false =>
      rfl
    | false =>
     rfl
   | false =>
    rfl
  | false =>
   rfl
theorem rd_enter  (t : ByteArray) (fr : Frame') (hl : Nat.beq fr.length 54 = true) (g3 : fr.getD 3 .undef = .dat (.str t)) : cleanF (liveAt Tryd.f12 1) 0 fr = rd_fr t := by
  have e : liveAt Tryd.f12 1 = [3] := by kernel_rfl
  rw [clean_mk (Nat.eq_of_beq_eq_true hl), e]
  show mkF 54 [(3, fr.getD 3 .undef)] = _
  rw [g3]
  kernel_rfl
abbrev SpH : Specs := [(7, C_nright), (9, C_text), (11, C_clean), (13, C_nindex), (15, C_apart)]
theorem SpH_ok : SpecsOk Tryd.prog SpH := .cons cnright_ok (.cons ctext_ok (.cons cclean_ok (.cons cnindex_ok (.cons capart_ok (.nil _)))))
def C_alive : FunT := fun args σ => match args, σ with
  | [], [] => .leaf ([AV.dat (D.bool true)], [])
  | _, _ => .fail
theorem alive_raw0  : runF (envOf tab SpH [] [] []) true Tryd.f6 [] [] =some ([.dat (.bool true)], []) := by kernel_rfl
theorem alive_case0  : runF (envOf tab SpH [] [] []) true Tryd.f6 [] [] = FunT.run C_alive [] [] := (alive_raw0).trans (by
  show _ = (some (([.dat (.bool true)], []) : Res))
  rfl
  )
theorem calive_ok : FunOk Tryd.prog 6 (FunT.run C_alive) := by
  refine fun_ok (E := envOf tab SpH [] [] []) (fz := true) (fn := Tryd.f6) (envOf_ok progOk SpH_ok) (by kernel_rfl) (by kernel_rfl) (loops_none (by kernel_rfl)) ?_
  intro args σ r h
  unfold C_alive at h
  split at h
  · exact (alive_case0).trans h
  · simp [T.run_fail] at h
end Go.Proofs.YtniombjfbdojjaaDoor
