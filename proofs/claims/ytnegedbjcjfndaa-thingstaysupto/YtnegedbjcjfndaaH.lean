/- Seat 16: the document's deeds. -/
import Derived.Test.YtnegedbjcjfndaaG
namespace Go.Proofs.Ytnegedbjcjfndaa
open Go.AX
set_option maxRecDepth 100000

theorem okEs_fits {ls : List D} (h : ls.all (okE ekI) = true) : fits (.agg [.one, .one, .one, .one, .agg [.one, .one]]) ls = true := by
  unfold fits
  rw [List.all_eq_true] at h ⊢
  intro d hd
  obtain ⟨u, s, k, w, a, b, rfl⟩ := ekI_form (h d hd)
  rfl
theorem seg_set {ls : List D} (i : Nat) (x : D) : seg (ls.set i x) 0 ls.length = ls.set i x := by
  have := seg_full (ls.set i x)
  rwa [List.length_set] at this
abbrev itD (u : Bool) (s : ByteArray) (k w a b : Int) : D := .agg [.bool u, .str s, .int .i64 k, .int .i64 w, .agg [.int .i64 a, .int .i64 b]]
/-- What the document's Set comes to. -/
theorem rset_is {ls : List D} (h : okEs ls = true) (hl : ls.length ≤ 1048576) {i : Nat} (hi : i < ls.length) (u : Bool) (s : ByteArray) (k w a b : Int) :
    rset_v0 ls (i : Int) u s k w a b = ls.set i (itD u s k w a b) ∧ rset_pre ls (i : Int) u s k w a b = true := by
  obtain ⟨h1, h2⟩ := okEs_spec h
  obtain ⟨u', s', k', w', a', b', hform⟩ := ekI_form (allE_nth h1 hi)
  have e1 : okS (.agg [.one, .one, .one, .one, .agg [.one, .one]]) (nthD ls i) = true := by rw [hform]; rfl
  have hne : ls.isEmpty = false := by cases ls with | nil => simp at hi | cons => rfl
  refine ⟨by unfold rset_v0; rw [Int.toNat_natCast, Nat.zero_add, Nat.zero_add, seg_set], ?_⟩
  unfold rset_pre
  simp only [okEs_fits h1, hne, hform, Int.toNat_natCast, Nat.zero_add, decide_eq_true hi, beq_self, List.length_set, decide_eq_true (show ls.length * 56 ≤ 35184372088832 by omega), decide_eq_true (show (0 : Int) ≤ (i : Int) by omega), decide_eq_true (show (i : Int) < (ls.length : Int) by omega), Bool.not_false, Bool.and_true]
  rfl

abbrev SpR : Specs := (13, C_rrt) :: SpD2
theorem SpR_ok : SpecsOk Try.prog SpR := .cons crrt_ok SpD2_ok
def rmk2_fr (ls : List D) (s : ByteArray) (w : Int) : Int → Frame' := fun i => mkF 40 [(0, .dat (.slc (.agg [.one, .one, .one, .one, .agg [.one, .one]]) ls)), (1, .dat (.str s)), (2, .dat (.int .i64 w)), (9, .dat (.int .i64 i))]
def rmk2_st (_ : List D) (_ : ByteArray) (_ : Int) : Int → Store := fun _ => []
def rmk2_step (ls : List D) (s : ByteArray) (w : Int) : Int → T (Int ⊕ LOut) := fun i => 
  .chk (!decide (i < (↑(List.length ls) : Int)) || decide ((0 : Int) ≤ i) && (decide (Int.toNat i < List.length ls) && (okE (Ek.agg [Ek.bool, Ek.str, Ek.int IntKind.i64, Ek.int IntKind.i64, Ek.agg [Ek.int IntKind.i64, Ek.int IntKind.i64]]) (nthD ls (Int.toNat i)) && (D.getB (nthD (D.getL (nthD ls (Int.toNat i))) 0) || rset_pre ls i true s (1 : Int) w (0 : Int) (0 : Int))))) (
   .br (!decide (i < (↑(List.length ls) : Int))) (.leaf (.inr ((some 0), mkF 40 [], []))) (
    .br (decide (i < (↑(List.length ls) : Int)) && !D.getB (nthD (D.getL (nthD ls (Int.toNat i))) 0)) (.leaf (.inr (none, mkF 40 [(6, AV.dat (D.slc (Sh.agg [Sh.one, Sh.one, Sh.one, Sh.one, Sh.agg [Sh.one, Sh.one]]) (rset_v0 ls i true s (1 : Int) w (0 : Int) (0 : Int)))), (7, AV.dat (D.int IntKind.i64 i)), (8, AV.dat (D.int IntKind.i64 (0 : Int)))], []))) (.leaf (.inl (IntKind.wrap IntKind.i64 (i + (1 : Int)))))))
theorem rmk2_round (lp : Loops) (ls : List D) (s : ByteArray) (w : Int) (i : Int) (K : Kt) : oneRound (envOf tab SpR [] lp []) Try.f11 0 (0) (mkF 40 [(0, .dat (.slc (.agg [.one, .one, .one, .one, .agg [.one, .one]]) ls)), (1, .dat (.str s)), (2, .dat (.int .i64 w)), (9, .dat (.int .i64 i))]) ([]) K =
  (bif decide (i < (↑(List.length ls) : Int)) then 
   (bif decide ((0 : Int) ≤ i) then 
    (bif decide (Int.toNat i < List.length ls) then 
     (bif okE (Ek.agg [Ek.bool, Ek.str, Ek.int IntKind.i64, Ek.int IntKind.i64, Ek.agg [Ek.int IntKind.i64, Ek.int IntKind.i64]]) (nthD ls (Int.toNat i)) then 
      (bif !D.getB (nthD (D.getL (nthD ls (Int.toNat i))) 0) then 
       (bif rset_pre ls i true s (1 : Int) w (0 : Int) (0 : Int) then K (Exit.ret) (mkF 40 [(6, AV.dat (D.slc (Sh.agg [Sh.one, Sh.one, Sh.one, Sh.one, Sh.agg [Sh.one, Sh.one]]) (rset_v0 ls i true s (1 : Int) w (0 : Int) (0 : Int)))), (7, AV.dat (D.int IntKind.i64 i)), (8, AV.dat (D.int IntKind.i64 (0 : Int)))]) ([]) else none) else K (Exit.normal) (mkF 40 [(0, AV.dat (D.slc (Sh.agg [Sh.one, Sh.one, Sh.one, Sh.one, Sh.agg [Sh.one, Sh.one]]) ls)), (1, AV.dat (D.str s)), (2, AV.dat (D.int IntKind.i64 w)), (9, AV.dat (D.int IntKind.i64 (IntKind.wrap IntKind.i64 (i + (1 : Int))))), (25, AV.dat (D.int IntKind.i64 i)), (26, AV.dat (D.int IntKind.i64 (IntKind.wrap IntKind.i64 (i + (1 : Int)))))]) ([])) else none) else none) else none) else K (Exit.exit 0) (mkF 40 []) ([])) := by kernel_rfl
theorem rmk2_hr (lp : Loops) (ls : List D) (s : ByteArray) (w : Int) : ∀ (sA : Int) (K : Kt) (N : Int → Option Res), (∀ sB fr' σ', cleanF (liveAt Try.f11 0) 0 fr' = rmk2_fr ls s w sB → trim (0) (rmk2_fr ls s w sB) σ' = rmk2_st ls s w sB → K .normal fr' σ' = N sB) →
    oneRound (envOf tab SpR [] lp []) Try.f11 0 (0) (rmk2_fr ls s w sA) (rmk2_st ls s w sA) K = (rmk2_step ls s w sA).k (LK K N) := by
  intro i K N hN
  refine (rmk2_round lp ls s w i K).trans ?_
  show _ = T.k ((
  .chk (!decide (i < (↑(List.length ls) : Int)) || decide ((0 : Int) ≤ i) && (decide (Int.toNat i < List.length ls) && (okE (Ek.agg [Ek.bool, Ek.str, Ek.int IntKind.i64, Ek.int IntKind.i64, Ek.agg [Ek.int IntKind.i64, Ek.int IntKind.i64]]) (nthD ls (Int.toNat i)) && (D.getB (nthD (D.getL (nthD ls (Int.toNat i))) 0) || rset_pre ls i true s (1 : Int) w (0 : Int) (0 : Int))))) (
   .br (!decide (i < (↑(List.length ls) : Int))) (.leaf (.inr ((some 0), mkF 40 [], []))) (
    .br (decide (i < (↑(List.length ls) : Int)) && !D.getB (nthD (D.getL (nthD ls (Int.toNat i))) 0)) (.leaf (.inr (none, mkF 40 [(6, AV.dat (D.slc (Sh.agg [Sh.one, Sh.one, Sh.one, Sh.one, Sh.agg [Sh.one, Sh.one]]) (rset_v0 ls i true s (1 : Int) w (0 : Int) (0 : Int)))), (7, AV.dat (D.int IntKind.i64 i)), (8, AV.dat (D.int IntKind.i64 (0 : Int)))], []))) (.leaf (.inl (IntKind.wrap IntKind.i64 (i + (1 : Int)))))))) : T (Int ⊕ LOut)) (LK K N)
  generalize (okE (Ek.agg [Ek.bool, Ek.str, Ek.int IntKind.i64, Ek.int IntKind.i64, Ek.agg [Ek.int IntKind.i64, Ek.int IntKind.i64]]) (nthD ls (Int.toNat i))) = z0
  generalize (rset_pre ls i true s (1 : Int) w (0 : Int) (0 : Int)) = z1
  generalize (decide (i < (↑(List.length ls) : Int))) = z2
  generalize (decide ((0 : Int) ≤ i)) = z3
  generalize (decide (Int.toNat i < List.length ls)) = z4
  generalize (D.getB (nthD (D.getL (nthD ls (Int.toNat i))) 0)) = z5
  cases z2 with
  | true =>
   cases z3 with
   | true =>
    cases z4 with
    | true =>
     cases z0 with
     | true =>
      cases z5 with
      | true =>
       exact hN _ _ _ (by kernel_rfl) (by kernel_rfl)
      | false =>
       cases z1 with
       | true =>
        rfl
       | false =>
        rfl
     | false =>
      rfl
    | false =>
     rfl
   | false =>
    rfl
  | false =>
   rfl
theorem rmk2_enter (ls : List D) (s : ByteArray) (w : Int) (i : Int) (fr : Frame') (hl : Nat.beq fr.length 40 = true) (g0 : fr.getD 0 .undef = AV.dat (D.slc (Sh.agg [Sh.one, Sh.one, Sh.one, Sh.one, Sh.agg [Sh.one, Sh.one]]) ls)) (g1 : fr.getD 1 .undef = AV.dat (D.str s)) (g2 : fr.getD 2 .undef = AV.dat (D.int IntKind.i64 w)) (g9 : fr.getD 9 .undef = AV.dat (D.int IntKind.i64 i)) : cleanF (liveAt Try.f11 0) 0 fr = rmk2_fr ls s w i := by
  have e : liveAt Try.f11 0 = [0, 1, 2, 9] := by kernel_rfl
  rw [clean_mk (Nat.eq_of_beq_eq_true hl), e]
  show mkF 40 [(0, fr.getD 0 .undef), (1, fr.getD 1 .undef), (2, fr.getD 2 .undef), (9, fr.getD 9 .undef)] = _
  rw [g0, g1, g2, g9]
  kernel_rfl

def rfr2_fr (ls : List D) (t w : Int) : (Int × List D) → Frame' := fun ⟨i, out⟩ => mkF 63 [(0, .dat (.slc (.agg [.one, .one, .one, .one, .agg [.one, .one]]) ls)), (1, .dat (.int .i64 t)), (2, .dat (.int .i64 w)), (8, .dat (.slc (.agg [.one, .one, .one, .one, .agg [.one, .one]]) out)), (9, .dat (.int .i64 i))]
def rfr2_st (_ : List D) (_ _ : Int) : (Int × List D) → Store := fun ⟨_, _⟩ => []
def rfr2_step (ls : List D) (t w : Int) : (Int × List D) → T ((Int × List D) ⊕ LOut) := fun ⟨i, out⟩ => 
  .chk (!decide (i < (↑(List.length ls) : Int)) || decide ((0 : Int) ≤ i) && (decide (Int.toNat i < List.length ls) && (okE (Ek.agg [Ek.bool, Ek.str, Ek.int IntKind.i64, Ek.int IntKind.i64, Ek.agg [Ek.int IntKind.i64, Ek.int IntKind.i64]]) (nthD ls (Int.toNat i)) && (!D.getB (nthD (D.getL (nthD ls (Int.toNat i))) 0) || (!D.getI (nthD (D.getL (nthD ls (Int.toNat i))) 2) == (3 : Int) || (!D.getI (nthD (D.getL (nthD ls (Int.toNat i))) 3) == t || rset_pre out i true (D.getS (nthD (D.getL (nthD ls (Int.toNat i))) 1)) (1 : Int) w (0 : Int) (0 : Int))))))) (
   .br (!decide (i < (↑(List.length ls) : Int))) (.leaf (.inr ((some 0), mkF 63 [(8, AV.dat (D.slc (Sh.agg [Sh.one, Sh.one, Sh.one, Sh.one, Sh.agg [Sh.one, Sh.one]]) out))], []))) (.leaf (.inl ((IntKind.wrap IntKind.i64 (i + (1 : Int))), (bif D.getB (nthD (D.getL (nthD ls (Int.toNat i))) 0) then bif D.getI (nthD (D.getL (nthD ls (Int.toNat i))) 2) == (3 : Int) then bif D.getI (nthD (D.getL (nthD ls (Int.toNat i))) 3) == t then rset_v0 out i true (D.getS (nthD (D.getL (nthD ls (Int.toNat i))) 1)) (1 : Int) w (0 : Int) (0 : Int) else out else out else out)))))
theorem rfr2_round (lp : Loops) (ls : List D) (t w : Int) (i : Int) (out : List D) (K : Kt) : oneRound (envOf tab SpR [] lp []) Try.f24 0 (0) (mkF 63 [(0, .dat (.slc (.agg [.one, .one, .one, .one, .agg [.one, .one]]) ls)), (1, .dat (.int .i64 t)), (2, .dat (.int .i64 w)), (8, .dat (.slc (.agg [.one, .one, .one, .one, .agg [.one, .one]]) out)), (9, .dat (.int .i64 i))]) ([]) K =
  (bif decide (i < (↑(List.length ls) : Int)) then 
   (bif decide ((0 : Int) ≤ i) then 
    (bif decide (Int.toNat i < List.length ls) then 
     (bif okE (Ek.agg [Ek.bool, Ek.str, Ek.int IntKind.i64, Ek.int IntKind.i64, Ek.agg [Ek.int IntKind.i64, Ek.int IntKind.i64]]) (nthD ls (Int.toNat i)) then 
      (bif D.getB (nthD (D.getL (nthD ls (Int.toNat i))) 0) then 
       (bif decide ((0 : Int) ≤ i) then 
        (bif decide (Int.toNat i < List.length ls) then 
         (bif okE (Ek.agg [Ek.bool, Ek.str, Ek.int IntKind.i64, Ek.int IntKind.i64, Ek.agg [Ek.int IntKind.i64, Ek.int IntKind.i64]]) (nthD ls (Int.toNat i)) then 
          (bif D.getI (nthD (D.getL (nthD ls (Int.toNat i))) 2) == (3 : Int) then 
           (bif decide ((0 : Int) ≤ i) then 
            (bif decide (Int.toNat i < List.length ls) then 
             (bif okE (Ek.agg [Ek.bool, Ek.str, Ek.int IntKind.i64, Ek.int IntKind.i64, Ek.agg [Ek.int IntKind.i64, Ek.int IntKind.i64]]) (nthD ls (Int.toNat i)) then 
              (bif D.getI (nthD (D.getL (nthD ls (Int.toNat i))) 3) == t then 
               (bif decide ((0 : Int) ≤ i) then 
                (bif decide (Int.toNat i < List.length ls) then 
                 (bif okE (Ek.agg [Ek.bool, Ek.str, Ek.int IntKind.i64, Ek.int IntKind.i64, Ek.agg [Ek.int IntKind.i64, Ek.int IntKind.i64]]) (nthD ls (Int.toNat i)) then 
                  (bif rset_pre out i true (D.getS (nthD (D.getL (nthD ls (Int.toNat i))) 1)) (1 : Int) w (0 : Int) (0 : Int) then K (Exit.normal) (mkF 63 [(0, AV.dat (D.slc (Sh.agg [Sh.one, Sh.one, Sh.one, Sh.one, Sh.agg [Sh.one, Sh.one]]) ls)), (1, AV.dat (D.int IntKind.i64 t)), (2, AV.dat (D.int IntKind.i64 w)), (8, AV.dat (D.slc (Sh.agg [Sh.one, Sh.one, Sh.one, Sh.one, Sh.agg [Sh.one, Sh.one]]) (rset_v0 out i true (D.getS (nthD (D.getL (nthD ls (Int.toNat i))) 1)) (1 : Int) w (0 : Int) (0 : Int)))), (9, AV.dat (D.int IntKind.i64 (IntKind.wrap IntKind.i64 (i + (1 : Int))))), (28, AV.dat (D.int IntKind.i64 i)), (29, AV.dat (D.int IntKind.i64 (IntKind.wrap IntKind.i64 (i + (1 : Int)))))]) ([]) else none) else none) else none) else none) else K (Exit.normal) (mkF 63 [(0, AV.dat (D.slc (Sh.agg [Sh.one, Sh.one, Sh.one, Sh.one, Sh.agg [Sh.one, Sh.one]]) ls)), (1, AV.dat (D.int IntKind.i64 t)), (2, AV.dat (D.int IntKind.i64 w)), (8, AV.dat (D.slc (Sh.agg [Sh.one, Sh.one, Sh.one, Sh.one, Sh.agg [Sh.one, Sh.one]]) out)), (9, AV.dat (D.int IntKind.i64 (IntKind.wrap IntKind.i64 (i + (1 : Int))))), (28, AV.dat (D.int IntKind.i64 i)), (29, AV.dat (D.int IntKind.i64 (IntKind.wrap IntKind.i64 (i + (1 : Int)))))]) ([])) else none) else none) else none) else K (Exit.normal) (mkF 63 [(0, AV.dat (D.slc (Sh.agg [Sh.one, Sh.one, Sh.one, Sh.one, Sh.agg [Sh.one, Sh.one]]) ls)), (1, AV.dat (D.int IntKind.i64 t)), (2, AV.dat (D.int IntKind.i64 w)), (8, AV.dat (D.slc (Sh.agg [Sh.one, Sh.one, Sh.one, Sh.one, Sh.agg [Sh.one, Sh.one]]) out)), (9, AV.dat (D.int IntKind.i64 (IntKind.wrap IntKind.i64 (i + (1 : Int))))), (28, AV.dat (D.int IntKind.i64 i)), (29, AV.dat (D.int IntKind.i64 (IntKind.wrap IntKind.i64 (i + (1 : Int)))))]) ([])) else none) else none) else none) else K (Exit.normal) (mkF 63 [(0, AV.dat (D.slc (Sh.agg [Sh.one, Sh.one, Sh.one, Sh.one, Sh.agg [Sh.one, Sh.one]]) ls)), (1, AV.dat (D.int IntKind.i64 t)), (2, AV.dat (D.int IntKind.i64 w)), (8, AV.dat (D.slc (Sh.agg [Sh.one, Sh.one, Sh.one, Sh.one, Sh.agg [Sh.one, Sh.one]]) out)), (9, AV.dat (D.int IntKind.i64 (IntKind.wrap IntKind.i64 (i + (1 : Int))))), (28, AV.dat (D.int IntKind.i64 i)), (29, AV.dat (D.int IntKind.i64 (IntKind.wrap IntKind.i64 (i + (1 : Int)))))]) ([])) else none) else none) else none) else K (Exit.exit 0) (mkF 63 [(8, AV.dat (D.slc (Sh.agg [Sh.one, Sh.one, Sh.one, Sh.one, Sh.agg [Sh.one, Sh.one]]) out))]) ([])) := by kernel_rfl
theorem rfr2_hr (lp : Loops) (ls : List D) (t w : Int) : ∀ (sA : (Int × List D)) (K : Kt) (N : (Int × List D) → Option Res), (∀ sB fr' σ', cleanF (liveAt Try.f24 0) 0 fr' = rfr2_fr ls t w sB → trim (0) (rfr2_fr ls t w sB) σ' = rfr2_st ls t w sB → K .normal fr' σ' = N sB) →
    oneRound (envOf tab SpR [] lp []) Try.f24 0 (0) (rfr2_fr ls t w sA) (rfr2_st ls t w sA) K = (rfr2_step ls t w sA).k (LK K N) := by
  intro sA K N hN
  obtain ⟨i, out⟩ := sA
  refine (rfr2_round lp ls t w i out K).trans ?_
  show _ = T.k ((
  .chk (!decide (i < (↑(List.length ls) : Int)) || decide ((0 : Int) ≤ i) && (decide (Int.toNat i < List.length ls) && (okE (Ek.agg [Ek.bool, Ek.str, Ek.int IntKind.i64, Ek.int IntKind.i64, Ek.agg [Ek.int IntKind.i64, Ek.int IntKind.i64]]) (nthD ls (Int.toNat i)) && (!D.getB (nthD (D.getL (nthD ls (Int.toNat i))) 0) || (!D.getI (nthD (D.getL (nthD ls (Int.toNat i))) 2) == (3 : Int) || (!D.getI (nthD (D.getL (nthD ls (Int.toNat i))) 3) == t || rset_pre out i true (D.getS (nthD (D.getL (nthD ls (Int.toNat i))) 1)) (1 : Int) w (0 : Int) (0 : Int))))))) (
   .br (!decide (i < (↑(List.length ls) : Int))) (.leaf (.inr ((some 0), mkF 63 [(8, AV.dat (D.slc (Sh.agg [Sh.one, Sh.one, Sh.one, Sh.one, Sh.agg [Sh.one, Sh.one]]) out))], []))) (.leaf (.inl ((IntKind.wrap IntKind.i64 (i + (1 : Int))), (bif D.getB (nthD (D.getL (nthD ls (Int.toNat i))) 0) then bif D.getI (nthD (D.getL (nthD ls (Int.toNat i))) 2) == (3 : Int) then bif D.getI (nthD (D.getL (nthD ls (Int.toNat i))) 3) == t then rset_v0 out i true (D.getS (nthD (D.getL (nthD ls (Int.toNat i))) 1)) (1 : Int) w (0 : Int) (0 : Int) else out else out else out)))))) : T ((Int × List D) ⊕ LOut)) (LK K N)
  generalize (okE (Ek.agg [Ek.bool, Ek.str, Ek.int IntKind.i64, Ek.int IntKind.i64, Ek.agg [Ek.int IntKind.i64, Ek.int IntKind.i64]]) (nthD ls (Int.toNat i))) = z0
  generalize (rset_pre out i true (D.getS (nthD (D.getL (nthD ls (Int.toNat i))) 1)) (1 : Int) w (0 : Int) (0 : Int)) = z1
  generalize (D.getI (nthD (D.getL (nthD ls (Int.toNat i))) 2) == (3 : Int)) = z2
  generalize (decide (i < (↑(List.length ls) : Int))) = z3
  generalize (D.getI (nthD (D.getL (nthD ls (Int.toNat i))) 3) == t) = z4
  generalize (decide ((0 : Int) ≤ i)) = z5
  generalize (decide (Int.toNat i < List.length ls)) = z6
  generalize (D.getB (nthD (D.getL (nthD ls (Int.toNat i))) 0)) = z7
  cases z3 with
  | true =>
   cases z5 with
   | true =>
    cases z6 with
    | true =>
     cases z0 with
     | true =>
      cases z7 with
      | true =>
       cases z2 with
       | true =>
        cases z4 with
        | true =>
         cases z1 with
         | true =>
          exact hN _ _ _ (by kernel_rfl) (by kernel_rfl)
         | false =>
          rfl
        | false =>
         exact hN _ _ _ (by kernel_rfl) (by kernel_rfl)
       | false =>
        exact hN _ _ _ (by kernel_rfl) (by kernel_rfl)
      | false =>
       exact hN _ _ _ (by kernel_rfl) (by kernel_rfl)
     | false =>
      rfl
    | false =>
     rfl
   | false =>
    rfl
  | false =>
   rfl
theorem rfr2_enter (ls : List D) (t w : Int) (i : Int) (out : List D) (fr : Frame') (hl : Nat.beq fr.length 63 = true) (g0 : fr.getD 0 .undef = AV.dat (D.slc (Sh.agg [Sh.one, Sh.one, Sh.one, Sh.one, Sh.agg [Sh.one, Sh.one]]) ls)) (g1 : fr.getD 1 .undef = AV.dat (D.int IntKind.i64 t)) (g2 : fr.getD 2 .undef = AV.dat (D.int IntKind.i64 w)) (g8 : fr.getD 8 .undef = AV.dat (D.slc (Sh.agg [Sh.one, Sh.one, Sh.one, Sh.one, Sh.agg [Sh.one, Sh.one]]) out)) (g9 : fr.getD 9 .undef = AV.dat (D.int IntKind.i64 i)) : cleanF (liveAt Try.f24 0) 0 fr = rfr2_fr ls t w (i, out) := by
  have e : liveAt Try.f24 0 = [1, 0, 2, 9, 8] := by kernel_rfl
  rw [clean_mk (Nat.eq_of_beq_eq_true hl), e]
  show mkF 63 [(1, fr.getD 1 .undef), (0, fr.getD 0 .undef), (2, fr.getD 2 .undef), (9, fr.getD 9 .undef), (8, fr.getD 8 .undef)] = _
  rw [g1, g0, g2, g9, g8]
  kernel_rfl

abbrev freeI (d : D) : Bool := !fU d
abbrev okM (ls : List D) : Bool := okEs ls && decide (ls.length ≤ 1048576)
theorem rmk_closed (ls : List D) (s : ByteArray) (w : Int) (hc : okM ls = true) :
    ∃ m, (iterT (rmk2_step ls s w) m 0).run = T.run (.br (ls.any freeI) (.leaf (none, mkF 40 [(6, .dat (.slc (.agg [.one, .one, .one, .one, .agg [.one, .one]]) (ls.set (ls.findIdx freeI) (itD true s 1 w 0 0)))), (7, .dat (.int .i64 (ls.findIdx freeI : Nat))), (8, .dat (.int .i64 0))], [])) (.leaf (some 0, mkF 40 [], []))) := by
  simp only [okM, Bool.and_eq_true, decide_eq_true_eq] at hc
  obtain ⟨hE, hN⟩ := hc
  obtain ⟨h1, h2⟩ := okEs_spec hE
  obtain ⟨m, hm⟩ := iter_find (step := rmk2_step ls s w) (ls := ls) (p := freeI) (o := fun i => (none, mkF 40 [(6, .dat (.slc (.agg [.one, .one, .one, .one, .agg [.one, .one]]) (ls.set i (itD true s 1 w 0 0)))), (7, .dat (.int .i64 (i : Int))), (8, .dat (.int .i64 0))], [])) (o' := (some 0, mkF 40 [], []))
    (fun k hk => by
      obtain ⟨r1, r2⟩ := rset_is hE hN hk true s 1 w 0 0
      unfold rmk2_step
      simp only [decide_eq_true (show (k : Int) < (ls.length : Int) by omega), decide_eq_true (show (0 : Int) ≤ (k : Int) by omega), Int.toNat_natCast, decide_eq_true hk, allE_nth h1 hk, r1, r2, wrap_succ (show k < 2 ^ 62 by omega), Bool.not_true, Bool.true_and, Bool.and_true, Bool.or_true, T.run_br, T.run_chk, T.run_leaf, cond_true, cond_false]
      exact bif_some (freeI (nthD ls k)) _ _)
    (by
      unfold rmk2_step
      rw [decide_eq_false (show ¬ (ls.length : Int) < (ls.length : Int) by omega)]
      rfl)
  refine ⟨m, hm.trans ?_⟩
  cases ls.any freeI <;> rfl
def L_rmk2 : Frame' → Store → T (Exit × Frame' × Store) := fun fr σ => match fr.getD 0 .undef, fr.getD 1 .undef, fr.getD 2 .undef, fr.getD 9 .undef, σ with
  | AV.dat (D.slc (Sh.agg [Sh.one, Sh.one, Sh.one, Sh.one, Sh.agg [Sh.one, Sh.one]]) ls), AV.dat (D.str s), AV.dat (D.int IntKind.i64 w), AV.dat (D.int IntKind.i64 0), [] => .chk (Nat.beq fr.length 40 && (okM ls)) (T.bind (.br (ls.any freeI) (.leaf (none, mkF 40 [(6, .dat (.slc (.agg [.one, .one, .one, .one, .agg [.one, .one]]) (ls.set (ls.findIdx freeI) (itD true s 1 w 0 0)))), (7, .dat (.int .i64 (ls.findIdx freeI : Nat))), (8, .dat (.int .i64 0))], [])) (.leaf (some 0, mkF 40 [], []))) fun o => .leaf (outEx o.1, o.2.1, o.2.2))
  | _, _, _, _, _ => .fail
theorem rmk2_sem (lp : Loops) : ∀ fr σ p, (L_rmk2 fr σ).run = some p → ∀ (K : Kt) r, K p.1 p.2.1 p.2.2 = some r → ∃ n, loopRun (envOf tab SpR [] lp []) Try.f11 0 σ.length n (cleanF (liveAt Try.f11 0) 0 fr) σ K = some r := by
  intro fr σ p h K r hK
  unfold L_rmk2 at h
  split at h
  · rename_i ls s w g0 g1 g2 g9
    obtain ⟨hc, h'⟩ := T.chk_some h
    rw [Bool.and_eq_true] at hc
    obtain ⟨hl, hc⟩ := hc
    obtain ⟨o, ho, h'⟩ := T.bind_some h'
    have hp := T.leaf_some h'
    subst hp
    obtain ⟨nF, hn⟩ : ∃ nF, (iterT (rmk2_step ls s w) nF (0)).run = T.run (.br (ls.any freeI) (.leaf (none, mkF 40 [(6, .dat (.slc (.agg [.one, .one, .one, .one, .agg [.one, .one]]) (ls.set (ls.findIdx freeI) (itD true s 1 w 0 0)))), (7, .dat (.int .i64 (ls.findIdx freeI : Nat))), (8, .dat (.int .i64 0))], [])) (.leaf (some 0, mkF 40 [], []))) := rmk_closed ls s w hc
    rw [ho] at hn
    refine ⟨nF, ?_⟩
    have he : cleanF (liveAt Try.f11 0) 0 fr = rmk2_fr ls s w (0) := rmk2_enter ls s w _ fr hl g0 g1 g2 g9
    refine (iter_ok (base := 0) (rmk2_hr lp ls s w) K nF (0) _ _ (by rw [clean_clean]; exact he) (by kernel_rfl)).trans ?_
    rw [T.k_run hn]
    exact hK
  · simp [T.run_fail] at h
theorem rmk2_loopOk (lp : Loops) (hk : Loops.get lp 6 = some L_rmk2) : LoopOk (envOf tab SpR [] lp []) (loopAt Try.f11 0).1 (loopAt Try.f11 0).2 := loop_ok (L := L_rmk2) hk (rmk2_sem lp)


def heldP (ls : List D) (i w : Int) : Bool := rinh_v0 ls i w && (D.getI (nthD (D.getL (nthD (D.getL (nthD ls (Int.toNat i))) 4)) 0) == (0 : Int) && (D.getI (nthD (D.getL (nthD (D.getL (nthD ls (Int.toNat i))) 4)) 1) == (0 : Int) && true))
def rheTo (ls : List D) (w : Int) : List D := colTo (fun i => heldP ls (i : Int) w) ls.length
theorem rinh_ok {ls : List D} (h : ls.all (okE ekI) = true) (i : Int) : rinh_pre ls i = true := by
  unfold rinh_pre
  by_cases h0 : 0 ≤ i
  · by_cases h1 : i < ls.length
    · have h2 : i.toNat < ls.length := by omega
      rw [decide_eq_true h2, allE_nth h h2]; simp
    · rw [decide_eq_false h1]; simp
  · rw [decide_eq_false h0]; rfl
theorem rhe_closed (ls : List D) (w : Int) (hc : okEs ls = true) :
    ∃ z, (iterT (rhe_step ls w) z (0, 0, 0, [])).run = T.run (.leaf (some 0, mkF 31 [(5, .sref .one 0 (rheTo ls w).length [] 0 (rheTo ls w).length)], [mkDyn .one (rheTo ls w)])) := by
  obtain ⟨h1, h2⟩ := okEs_spec hc
  refine iter_collect (fun i => heldP ls (i : Int) w) (o := fun out => (some 0, mkF 31 [(5, .sref .one 0 out.length [] 0 out.length)], [mkDyn .one out])) (fun i hi out ho => ?_) (fun out => ?_)
  · have hq := allE_nth h1 hi
    unfold rhe_step heldP
    simp only [decide_eq_true (show (i : Int) < (ls.length : Int) by omega), decide_eq_true (show (0 : Int) ≤ (i : Int) by omega), Int.toNat_natCast, decide_eq_true hi, hq, rinh_ok h1, beq_self, decide_eq_true (show (out.length + 1) * 8 ≤ 35184372088832 by omega), wrap_succ (show i < 2 ^ 62 by omega), Bool.not_true, Bool.or_true, Bool.and_true, T.run_br, T.run_chk, T.run_leaf, cond_true, cond_false]
    cases rinh_v0 ls (i : Int) w <;> rfl
  · unfold rhe_step
    simp only [decide_eq_false (show ¬ (ls.length : Int) < (ls.length : Int) by omega)]
    rfl
def L_rhe : Frame' → Store → T (Exit × Frame' × Store) := fun fr σ => match fr.getD 0 .undef, fr.getD 1 .undef, fr.getD 5 .undef, fr.getD 6 .undef, σ with
  | AV.dat (D.slc (Sh.agg [Sh.one, Sh.one, Sh.one, Sh.one, Sh.agg [Sh.one, Sh.one]]) ls), AV.dat (D.int IntKind.i64 w), AV.sref Sh.one 0 0 [] 0 0, AV.dat (D.int IntKind.i64 0), [{ sh := Sh.arr Sh.one 0, dyn := true, frz := false, v := AV.dat (D.arr Sh.one []) }] => .chk (Nat.beq fr.length 31 && (okEs ls)) (T.bind (.leaf (some 0, mkF 31 [(5, .sref .one 0 (rheTo ls w).length [] 0 (rheTo ls w).length)], [mkDyn .one (rheTo ls w)])) fun o => .leaf (outEx o.1, o.2.1, o.2.2))
  | _, _, _, _, _ => .fail
theorem rhe_sem (lp : Loops) : ∀ fr σ p, (L_rhe fr σ).run = some p → ∀ (K : Kt) r, K p.1 p.2.1 p.2.2 = some r → ∃ n, loopRun (envOf tab SpD2 [] lp [(2, 0, [.own 5])]) Try.f26 0 σ.length n (cleanF (liveAt Try.f26 0) 0 fr) σ K = some r := by
  intro fr σ p h K r hK
  unfold L_rhe at h
  split at h
  · rename_i ls w g0 g1 g5 g6
    obtain ⟨hc, h'⟩ := T.chk_some h
    rw [Bool.and_eq_true] at hc
    obtain ⟨hl, hc⟩ := hc
    obtain ⟨o, ho, h'⟩ := T.bind_some h'
    have hp := T.leaf_some h'
    subst hp
    obtain ⟨nF, hn⟩ : ∃ nF, (iterT (rhe_step ls w) nF ((0, 0, 0, []))).run = T.run (.leaf (some 0, mkF 31 [(5, .sref .one 0 (rheTo ls w).length [] 0 (rheTo ls w).length)], [mkDyn .one (rheTo ls w)])) := rhe_closed ls w hc
    rw [ho] at hn
    refine ⟨nF, ?_⟩
    have he : cleanF (liveAt Try.f26 0) 0 fr = rhe_fr ls w ((0, 0, 0, [])) := rhe_enter ls w _ _ _ _ fr hl g0 g1 g5 g6
    refine (iter_ok (base := 1) (rhe_hr lp ls w) K nF ((0, 0, 0, [])) _ _ (by rw [clean_clean]; exact he) (by kernel_rfl)).trans ?_
    rw [T.k_run hn]
    exact hK
  · simp [T.run_fail] at h
theorem rhe_loopOk (lp : Loops) (hk : Loops.get lp 3 = some L_rhe) : LoopOk (envOf tab SpD2 [] lp [(2, 0, [.own 5])]) (loopAt Try.f26 0).1 (loopAt Try.f26 0).2 := loop_ok (L := L_rhe) hk (rhe_sem lp)


def lyP (a b : Int) (d : D) : Bool := fU d && (fK d == 2 && ((fA d == a && (fB d == b && true)) && fW d == 0))
def rlyTo (ls : List D) (a b : Int) : List D := colTo (fun i => lyP a b (nthD ls i)) ls.length
theorem rly_closed (ls : List D) (a b : Int) (hc : okEs ls = true) :
    ∃ z, (iterT (rly_step ls a b) z (0, 0, 0, [])).run = T.run (.leaf (some 0, mkF 48 [(5, .sref .one 1 (rlyTo ls a b).length [] 0 (rlyTo ls a b).length)], [⟨.agg [.one, .one], false, false, .dat (.agg [.int .i64 a, .int .i64 b])⟩, mkDyn .one (rlyTo ls a b)])) := by
  obtain ⟨h1, h2⟩ := okEs_spec hc
  refine iter_collect (fun i => lyP a b (nthD ls i)) (o := fun out => (some 0, mkF 48 [(5, .sref .one 1 out.length [] 0 out.length)], [⟨.agg [.one, .one], false, false, .dat (.agg [.int .i64 a, .int .i64 b])⟩, mkDyn .one out])) (fun i hi out ho => ?_) (fun out => ?_)
  · have hq := allE_nth h1 hi
    unfold rly_step lyP
    simp only [decide_eq_true (show (i : Int) < (ls.length : Int) by omega), decide_eq_true (show (0 : Int) ≤ (i : Int) by omega), Int.toNat_natCast, decide_eq_true hi, hq, beq_self, decide_eq_true (show (out.length + 1) * 8 ≤ 35184372088832 by omega), wrap_succ (show i < 2 ^ 62 by omega), Bool.not_true, Bool.or_true, Bool.and_true, T.run_br, T.run_chk, T.run_leaf, cond_true, cond_false]
    dsimp only [fU, fK, fW, fA, fB]
    cases D.getB (nthD (D.getL (nthD ls i)) 0) <;> cases (D.getI (nthD (D.getL (nthD ls i)) 2) == 2) <;> cases (D.getI (nthD (D.getL (nthD (D.getL (nthD ls i)) 4)) 0) == a && D.getI (nthD (D.getL (nthD (D.getL (nthD ls i)) 4)) 1) == b) <;> cases (D.getI (nthD (D.getL (nthD ls i)) 3) == 0) <;> rfl
  · unfold rly_step
    simp only [decide_eq_false (show ¬ (ls.length : Int) < (ls.length : Int) by omega)]
    rfl
def L_rly : Frame' → Store → T (Exit × Frame' × Store) := fun fr σ => match fr.getD 0 .undef, fr.getD 3 .undef, fr.getD 5 .undef, fr.getD 6 .undef, σ with
  | AV.dat (D.slc (Sh.agg [Sh.one, Sh.one, Sh.one, Sh.one, Sh.agg [Sh.one, Sh.one]]) ls), AV.ptr (Sh.agg [Sh.one, Sh.one]) 0 0 [], AV.sref Sh.one 1 0 [] 0 0, AV.dat (D.int IntKind.i64 0), [{ sh := Sh.agg [Sh.one, Sh.one], dyn := false, frz := false, v := AV.dat (D.agg [D.int IntKind.i64 a, D.int IntKind.i64 b]) }, { sh := Sh.arr Sh.one 0, dyn := true, frz := false, v := AV.dat (D.arr Sh.one []) }] => .chk (Nat.beq fr.length 48 && (okEs ls)) (T.bind (.leaf (some 0, mkF 48 [(5, .sref .one 1 (rlyTo ls a b).length [] 0 (rlyTo ls a b).length)], [⟨.agg [.one, .one], false, false, .dat (.agg [.int .i64 a, .int .i64 b])⟩, mkDyn .one (rlyTo ls a b)])) fun o => .leaf (outEx o.1, o.2.1, o.2.2))
  | _, _, _, _, _ => .fail
theorem rly_sem (lp : Loops) : ∀ fr σ p, (L_rly fr σ).run = some p → ∀ (K : Kt) r, K p.1 p.2.1 p.2.2 = some r → ∃ n, loopRun (envOf tab SpD2 [] lp [(2, 0, [.own 5])]) Try.f27 0 σ.length n (cleanF (liveAt Try.f27 0) 0 fr) σ K = some r := by
  intro fr σ p h K r hK
  unfold L_rly at h
  split at h
  · rename_i ls a b g0 g3 g5 g6
    obtain ⟨hc, h'⟩ := T.chk_some h
    rw [Bool.and_eq_true] at hc
    obtain ⟨hl, hc⟩ := hc
    obtain ⟨o, ho, h'⟩ := T.bind_some h'
    have hp := T.leaf_some h'
    subst hp
    obtain ⟨nF, hn⟩ : ∃ nF, (iterT (rly_step ls a b) nF ((0, 0, 0, []))).run = T.run (.leaf (some 0, mkF 48 [(5, .sref .one 1 (rlyTo ls a b).length [] 0 (rlyTo ls a b).length)], [⟨.agg [.one, .one], false, false, .dat (.agg [.int .i64 a, .int .i64 b])⟩, mkDyn .one (rlyTo ls a b)])) := rly_closed ls a b hc
    rw [ho] at hn
    refine ⟨nF, ?_⟩
    have he : cleanF (liveAt Try.f27 0) 0 fr = rly_fr ls a b ((0, 0, 0, [])) := rly_enter ls a b _ _ _ _ fr hl g0 g3 g5 g6
    refine (iter_ok (base := 2) (rly_hr lp ls a b) K nF ((0, 0, 0, [])) _ _ (by rw [clean_clean]; exact he) (by kernel_rfl)).trans ?_
    rw [T.k_run hn]
    exact hK
  · simp [T.run_fail] at h
theorem rly_loopOk (lp : Loops) (hk : Loops.get lp 3 = some L_rly) : LoopOk (envOf tab SpD2 [] lp [(2, 0, [.own 5])]) (loopAt Try.f27 0).1 (loopAt Try.f27 0).2 := loop_ok (L := L_rly) hk (rly_sem lp)


abbrev rfrP (t : Int) (d : D) : Bool := fU d && (fK d == 3 && fW d == t)
def rfrTo (ls : List D) (t w : Int) : Nat → List D
  | 0 => ls
  | i + 1 => bif rfrP t (nthD ls i) then (rfrTo ls t w i).set i (itD true (fS (nthD ls i)) 1 w 0 0) else rfrTo ls t w i
theorem rfrTo_ok {ls : List D} (h : okEs ls = true) (t w : Int) : ∀ i, okEs (rfrTo ls t w i) = true ∧ (rfrTo ls t w i).length = ls.length
  | 0 => ⟨h, rfl⟩
  | i + 1 => by
    obtain ⟨g1, g2⟩ := rfrTo_ok h t w i
    unfold rfrTo
    cases rfrP t (nthD ls i) with
    | false => exact ⟨g1, g2⟩
    | true => exact ⟨okEs_set g1 _ _ _ _ _ _ _, by rw [cond_true, List.length_set]; exact g2⟩
theorem rfr_closed (ls out : List D) (t w : Int) (hc : (okM ls && D.eqbL out ls) = true) :
    ∃ z, (iterT (rfr2_step ls t w) z (0, out)).run = T.run (.leaf (some 0, mkF 63 [(8, .dat (.slc (.agg [.one, .one, .one, .one, .agg [.one, .one]]) (rfrTo ls t w ls.length)))], [])) := by
  simp only [okM, Bool.and_eq_true, decide_eq_true_eq] at hc
  obtain ⟨⟨hE, hN⟩, ho⟩ := hc
  obtain rfl := eqbL_iff.1 ho
  obtain ⟨h1, h2⟩ := okEs_spec hE
  refine iter_range (n := out.length) (fun i => rfrTo out t w i) (fun i hi => ?_) ?_
  · obtain ⟨g1, g2⟩ := rfrTo_ok hE t w i
    obtain ⟨r1, r2⟩ := rset_is g1 (by omega) (show i < (rfrTo out t w i).length by omega) true (fS (nthD out i)) 1 w 0 0
    have e : rfrTo out t w (i + 1) = bif rfrP t (nthD out i) then (rfrTo out t w i).set i (itD true (fS (nthD out i)) 1 w 0 0) else rfrTo out t w i := rfl
    rw [e]
    unfold rfr2_step
    simp only [decide_eq_true (show (i : Int) < (out.length : Int) by omega), decide_eq_true (show (0 : Int) ≤ (i : Int) by omega), Int.toNat_natCast, decide_eq_true hi, allE_nth h1 hi, r1, r2, wrap_succ (show i < 2 ^ 62 by omega), Bool.not_true, Bool.and_true, Bool.or_true, T.run_br, T.run_chk, T.run_leaf, cond_true, cond_false]
    dsimp only [rfrP, fU, fK, fW, fS]
    cases D.getB (nthD (D.getL (nthD out i)) 0) <;> cases (D.getI (nthD (D.getL (nthD out i)) 2) == 3) <;> cases (D.getI (nthD (D.getL (nthD out i)) 3) == t) <;> rfl
  · unfold rfr2_step
    simp only [decide_eq_false (show ¬ (out.length : Int) < (out.length : Int) by omega)]
    rfl
def L_rfr2 : Frame' → Store → T (Exit × Frame' × Store) := fun fr σ => match fr.getD 0 .undef, fr.getD 1 .undef, fr.getD 2 .undef, fr.getD 8 .undef, fr.getD 9 .undef, σ with
  | AV.dat (D.slc (Sh.agg [Sh.one, Sh.one, Sh.one, Sh.one, Sh.agg [Sh.one, Sh.one]]) ls), AV.dat (D.int IntKind.i64 t), AV.dat (D.int IntKind.i64 w), AV.dat (D.slc (Sh.agg [Sh.one, Sh.one, Sh.one, Sh.one, Sh.agg [Sh.one, Sh.one]]) out), AV.dat (D.int IntKind.i64 0), [] => .chk (Nat.beq fr.length 63 && (okM ls && D.eqbL out ls)) (T.bind (.leaf (some 0, mkF 63 [(8, .dat (.slc (.agg [.one, .one, .one, .one, .agg [.one, .one]]) (rfrTo ls t w ls.length)))], [])) fun o => .leaf (outEx o.1, o.2.1, o.2.2))
  | _, _, _, _, _, _ => .fail
theorem rfr2_sem (lp : Loops) : ∀ fr σ p, (L_rfr2 fr σ).run = some p → ∀ (K : Kt) r, K p.1 p.2.1 p.2.2 = some r → ∃ n, loopRun (envOf tab SpR [] lp []) Try.f24 0 σ.length n (cleanF (liveAt Try.f24 0) 0 fr) σ K = some r := by
  intro fr σ p h K r hK
  unfold L_rfr2 at h
  split at h
  · rename_i ls t w out g0 g1 g2 g8 g9
    obtain ⟨hc, h'⟩ := T.chk_some h
    rw [Bool.and_eq_true] at hc
    obtain ⟨hl, hc⟩ := hc
    obtain ⟨o, ho, h'⟩ := T.bind_some h'
    have hp := T.leaf_some h'
    subst hp
    obtain ⟨nF, hn⟩ : ∃ nF, (iterT (rfr2_step ls t w) nF ((0, out))).run = T.run (.leaf (some 0, mkF 63 [(8, .dat (.slc (.agg [.one, .one, .one, .one, .agg [.one, .one]]) (rfrTo ls t w ls.length)))], [])) := rfr_closed ls out t w hc
    rw [ho] at hn
    refine ⟨nF, ?_⟩
    have he : cleanF (liveAt Try.f24 0) 0 fr = rfr2_fr ls t w ((0, out)) := rfr2_enter ls t w _ _ fr hl g0 g1 g2 g8 g9
    refine (iter_ok (base := 0) (rfr2_hr lp ls t w) K nF ((0, out)) _ _ (by rw [clean_clean]; exact he) (by kernel_rfl)).trans ?_
    rw [T.k_run hn]
    exact hK
  · simp [T.run_fail] at h
theorem rfr2_loopOk (lp : Loops) (hk : Loops.get lp 5 = some L_rfr2) : LoopOk (envOf tab SpR [] lp []) (loopAt Try.f24 0).1 (loopAt Try.f24 0).2 := loop_ok (L := L_rfr2) hk (rfr2_sem lp)


abbrev HO : Hints := [(2, 0, [.own 5])]
def rhe_pre (ls : List D) (w : Int) : Bool := okEs ls && Nat.beq (List.length (rheTo ls w)) (List.length (rheTo ls w))
def C_rhe : FunT := fun args σ => match args, σ with
  | [AV.dat (D.slc (Sh.agg [Sh.one, Sh.one, Sh.one, Sh.one, Sh.agg [Sh.one, Sh.one]]) ls), AV.dat (D.int IntKind.i64 w)], [] => .chk ((rhe_pre ls w)) (.leaf ([AV.dat (D.slc Sh.one (seg (rheTo ls w) 0 (List.length (rheTo ls w))))], []))
  | _, _ => .fail
theorem rhe_raw0 (ls : List D) (w : Int) : runF (envOf tab SpD2 [] [(3, L_rhe)] HO) true Try.f26 [.dat (.slc (.agg [.one, .one, .one, .one, .agg [.one, .one]]) ls), .dat (.int .i64 w)] [] =
  (bif okEs ls then 
   (bif Nat.beq (List.length (rheTo ls w)) (List.length (rheTo ls w)) then some ([AV.dat (D.slc Sh.one (seg (rheTo ls w) 0 (List.length (rheTo ls w))))], []) else none) else none) := by kernel_rfl
theorem rhe_case0 (ls : List D) (w : Int) : runF (envOf tab SpD2 [] [(3, L_rhe)] HO) true Try.f26 [.dat (.slc (.agg [.one, .one, .one, .one, .agg [.one, .one]]) ls), .dat (.int .i64 w)] [] = FunT.run C_rhe [.dat (.slc (.agg [.one, .one, .one, .one, .agg [.one, .one]]) ls), .dat (.int .i64 w)] [] := (rhe_raw0 ls w).trans (by
  show _ = (cond (okEs ls && Nat.beq (List.length (rheTo ls w)) (List.length (rheTo ls w))) (some (([AV.dat (D.slc Sh.one (seg (rheTo ls w) 0 (List.length (rheTo ls w))))], []) : Res)) none)
  generalize (Nat.beq (List.length (rheTo ls w)) (List.length (rheTo ls w))) = z0
  generalize (okEs ls) = z1
  cases z1 with
  | true =>
   cases z0 with
   | true =>
    rfl
   | false =>
    rfl
  | false =>
   rfl
  )
theorem crhe_ok : FunOk Try.prog 26 (FunT.run C_rhe) := by
  refine fun_ok (E := envOf tab SpD2 [] [(3, L_rhe)] HO) (fz := true) (fn := Try.f26) (envOf_ok progOk SpD2_ok) (by kernel_rfl) (by kernel_rfl) (loops_one (by kernel_rfl) (rhe_loopOk _ rfl)) ?_
  intro args σ r h
  unfold C_rhe at h
  split at h
  · exact (rhe_case0 _ _).trans h
  · simp [T.run_fail] at h

def rly_pre (ls : List D) (a : Int) (b : Int) : Bool := okEs ls && Nat.beq (List.length (rlyTo ls a b)) (List.length (rlyTo ls a b))
def C_rly : FunT := fun args σ => match args, σ with
  | [AV.dat (D.slc (Sh.agg [Sh.one, Sh.one, Sh.one, Sh.one, Sh.agg [Sh.one, Sh.one]]) ls), AV.dat (D.agg [D.int IntKind.i64 a, D.int IntKind.i64 b])], [] => .chk ((rly_pre ls a b)) (.leaf ([AV.dat (D.slc Sh.one (seg (rlyTo ls a b) 0 (List.length (rlyTo ls a b))))], []))
  | _, _ => .fail
theorem rly_raw0 (ls : List D) (a b : Int) : runF (envOf tab SpD2 [] [(3, L_rly)] HO) true Try.f27 [.dat (.slc (.agg [.one, .one, .one, .one, .agg [.one, .one]]) ls), .dat (.agg [.int .i64 a, .int .i64 b])] [] =
  (bif okEs ls then 
   (bif Nat.beq (List.length (rlyTo ls a b)) (List.length (rlyTo ls a b)) then some ([AV.dat (D.slc Sh.one (seg (rlyTo ls a b) 0 (List.length (rlyTo ls a b))))], []) else none) else none) := by kernel_rfl
theorem rly_case0 (ls : List D) (a b : Int) : runF (envOf tab SpD2 [] [(3, L_rly)] HO) true Try.f27 [.dat (.slc (.agg [.one, .one, .one, .one, .agg [.one, .one]]) ls), .dat (.agg [.int .i64 a, .int .i64 b])] [] = FunT.run C_rly [.dat (.slc (.agg [.one, .one, .one, .one, .agg [.one, .one]]) ls), .dat (.agg [.int .i64 a, .int .i64 b])] [] := (rly_raw0 ls a b).trans (by
  show _ = (cond (okEs ls && Nat.beq (List.length (rlyTo ls a b)) (List.length (rlyTo ls a b))) (some (([AV.dat (D.slc Sh.one (seg (rlyTo ls a b) 0 (List.length (rlyTo ls a b))))], []) : Res)) none)
  generalize (Nat.beq (List.length (rlyTo ls a b)) (List.length (rlyTo ls a b))) = z0
  generalize (okEs ls) = z1
  cases z1 with
  | true =>
   cases z0 with
   | true =>
    rfl
   | false =>
    rfl
  | false =>
   rfl
  )
theorem crly_ok : FunOk Try.prog 27 (FunT.run C_rly) := by
  refine fun_ok (E := envOf tab SpD2 [] [(3, L_rly)] HO) (fz := true) (fn := Try.f27) (envOf_ok progOk SpD2_ok) (by kernel_rfl) (by kernel_rfl) (loops_one (by kernel_rfl) (rly_loopOk _ rfl)) ?_
  intro args σ r h
  unfold C_rly at h
  split at h
  · exact (rly_case0 _ _ _).trans h
  · simp [T.run_fail] at h

def rmake_v0 (ls : List D) (s : ByteArray) (w : Int) : List D := bif rrt_v0 ls then bif rnum_v0 w then bif rright_v0 s then bif List.any ls freeI then List.set ls (List.findIdx freeI ls) (D.agg [D.bool true, D.str s, D.int IntKind.i64 (1 : Int), D.int IntKind.i64 w, D.agg [D.int IntKind.i64 (0 : Int), D.int IntKind.i64 (0 : Int)]]) else [] else [] else [] else []
def rmake_v1 (ls : List D) (s : ByteArray) (w : Int) : Int := bif rrt_v0 ls then bif rnum_v0 w then bif rright_v0 s then bif List.any ls freeI then (↑(List.findIdx freeI ls) : Int) else (0 : Int) else (0 : Int) else (0 : Int) else (0 : Int)
def rmake_v2 (ls : List D) (s : ByteArray) (w : Int) : Int := bif rrt_v0 ls then bif rnum_v0 w then bif rright_v0 s then bif List.any ls freeI then (0 : Int) else (8 : Int) else (2 : Int) else (1 : Int) else (1 : Int)
def rmake_pre (ls : List D) (s : ByteArray) (w : Int) : Bool := okIs ls && (!rrt_v0 ls || (!rnum_v0 w || rright_pre s && (!rright_v0 s || okM ls)))
def C_rmake : FunT := fun args σ => match args, σ with
  | [AV.dat (D.slc (Sh.agg [Sh.one, Sh.one, Sh.one, Sh.one, Sh.agg [Sh.one, Sh.one]]) ls), AV.dat (D.str s), AV.dat (D.int IntKind.i64 w)], [] => .chk ((rmake_pre ls s w)) (.leaf ([AV.dat (D.slc (Sh.agg [Sh.one, Sh.one, Sh.one, Sh.one, Sh.agg [Sh.one, Sh.one]]) (rmake_v0 ls s w)), AV.dat (D.int IntKind.i64 (rmake_v1 ls s w)), AV.dat (D.int IntKind.i64 (rmake_v2 ls s w))], []))
  | _, _ => .fail
theorem rmake_raw0 (ls : List D) (s : ByteArray) (w : Int) : runF (envOf tab SpR [] [(6, L_rmk2)] []) true Try.f11 [.dat (.slc (.agg [.one, .one, .one, .one, .agg [.one, .one]]) ls), .dat (.str s), .dat (.int .i64 w)] [] =
  (bif okIs ls then 
   (bif !rrt_v0 ls then some ([AV.dat (D.slc (Sh.agg [Sh.one, Sh.one, Sh.one, Sh.one, Sh.agg [Sh.one, Sh.one]]) []), AV.dat (D.int IntKind.i64 (0 : Int)), AV.dat (D.int IntKind.i64 (1 : Int))], []) else 
    (bif !rnum_v0 w then some ([AV.dat (D.slc (Sh.agg [Sh.one, Sh.one, Sh.one, Sh.one, Sh.agg [Sh.one, Sh.one]]) []), AV.dat (D.int IntKind.i64 (0 : Int)), AV.dat (D.int IntKind.i64 (1 : Int))], []) else 
     (bif rright_pre s then 
      (bif !rright_v0 s then some ([AV.dat (D.slc (Sh.agg [Sh.one, Sh.one, Sh.one, Sh.one, Sh.agg [Sh.one, Sh.one]]) []), AV.dat (D.int IntKind.i64 (0 : Int)), AV.dat (D.int IntKind.i64 (2 : Int))], []) else 
       (bif okM ls then 
        (bif List.any ls freeI then some ([AV.dat (D.slc (Sh.agg [Sh.one, Sh.one, Sh.one, Sh.one, Sh.agg [Sh.one, Sh.one]]) (List.set ls (List.findIdx freeI ls) (D.agg [D.bool true, D.str s, D.int IntKind.i64 (1 : Int), D.int IntKind.i64 w, D.agg [D.int IntKind.i64 (0 : Int), D.int IntKind.i64 (0 : Int)]]))), AV.dat (D.int IntKind.i64 (↑(List.findIdx freeI ls) : Int)), AV.dat (D.int IntKind.i64 (0 : Int))], []) else some ([AV.dat (D.slc (Sh.agg [Sh.one, Sh.one, Sh.one, Sh.one, Sh.agg [Sh.one, Sh.one]]) []), AV.dat (D.int IntKind.i64 (0 : Int)), AV.dat (D.int IntKind.i64 (8 : Int))], [])) else none)) else none))) else none) := by kernel_rfl
theorem rmake_case0 (ls : List D) (s : ByteArray) (w : Int) : runF (envOf tab SpR [] [(6, L_rmk2)] []) true Try.f11 [.dat (.slc (.agg [.one, .one, .one, .one, .agg [.one, .one]]) ls), .dat (.str s), .dat (.int .i64 w)] [] = FunT.run C_rmake [.dat (.slc (.agg [.one, .one, .one, .one, .agg [.one, .one]]) ls), .dat (.str s), .dat (.int .i64 w)] [] := (rmake_raw0 ls s w).trans (by
  show _ = (cond (okIs ls && (!rrt_v0 ls || (!rnum_v0 w || rright_pre s && (!rright_v0 s || okM ls)))) (some (([AV.dat (D.slc (Sh.agg [Sh.one, Sh.one, Sh.one, Sh.one, Sh.agg [Sh.one, Sh.one]]) (bif rrt_v0 ls then bif rnum_v0 w then bif rright_v0 s then bif List.any ls freeI then List.set ls (List.findIdx freeI ls) (D.agg [D.bool true, D.str s, D.int IntKind.i64 (1 : Int), D.int IntKind.i64 w, D.agg [D.int IntKind.i64 (0 : Int), D.int IntKind.i64 (0 : Int)]]) else [] else [] else [] else [])), AV.dat (D.int IntKind.i64 (bif rrt_v0 ls then bif rnum_v0 w then bif rright_v0 s then bif List.any ls freeI then (↑(List.findIdx freeI ls) : Int) else (0 : Int) else (0 : Int) else (0 : Int) else (0 : Int))), AV.dat (D.int IntKind.i64 (bif rrt_v0 ls then bif rnum_v0 w then bif rright_v0 s then bif List.any ls freeI then (0 : Int) else (8 : Int) else (2 : Int) else (1 : Int) else (1 : Int)))], []) : Res)) none)
  generalize (List.any ls freeI) = z0
  generalize (okIs ls) = z1
  generalize (rrt_v0 ls) = z2
  generalize (rnum_v0 w) = z3
  generalize (rright_pre s) = z4
  generalize (rright_v0 s) = z5
  generalize (okM ls) = z6
  cases z1 with
  | true =>
   cases z2 with
   | true =>
    cases z3 with
    | true =>
     cases z4 with
     | true =>
      cases z5 with
      | true =>
       cases z6 with
       | true =>
        cases z0 with
        | true =>
         rfl
        | false =>
         rfl
       | false =>
        rfl
      | false =>
       rfl
     | false =>
      rfl
    | false =>
     rfl
   | false =>
    rfl
  | false =>
   rfl
  )
theorem crmake_ok : FunOk Try.prog 11 (FunT.run C_rmake) := by
  refine fun_ok (E := envOf tab SpR [] [(6, L_rmk2)] []) (fz := true) (fn := Try.f11) (envOf_ok progOk SpR_ok) (by kernel_rfl) (by kernel_rfl) (loops_one (by kernel_rfl) (rmk2_loopOk _ rfl)) ?_
  intro args σ r h
  unfold C_rmake at h
  split at h
  · exact (rmake_case0 _ _ _).trans h
  · simp [T.run_fail] at h

def rfree_v0 (ls : List D) (t : Int) (w : Int) : List D := bif rrt_v0 ls then bif rnum_v0 t then bif rnum_v0 w then rfrTo ls t w (List.length ls) else [] else [] else []
def rfree_v1 (ls : List D) (t : Int) (w : Int) : Int := bif rrt_v0 ls then bif rnum_v0 t then bif rnum_v0 w then (0 : Int) else (1 : Int) else (1 : Int) else (1 : Int)
def rfree_pre (ls : List D) (t : Int) (w : Int) : Bool := okIs ls && (!rrt_v0 ls || (!rnum_v0 t || (!rnum_v0 w || okM ls && D.eqbL ls ls)))
def C_rfree : FunT := fun args σ => match args, σ with
  | [AV.dat (D.slc (Sh.agg [Sh.one, Sh.one, Sh.one, Sh.one, Sh.agg [Sh.one, Sh.one]]) ls), AV.dat (D.int IntKind.i64 t), AV.dat (D.int IntKind.i64 w)], [] => .chk ((rfree_pre ls t w)) (.leaf ([AV.dat (D.slc (Sh.agg [Sh.one, Sh.one, Sh.one, Sh.one, Sh.agg [Sh.one, Sh.one]]) (rfree_v0 ls t w)), AV.dat (D.int IntKind.i64 (rfree_v1 ls t w))], []))
  | _, _ => .fail
theorem rfree_raw0 (ls : List D) (t w : Int) : runF (envOf tab SpR [] [(5, L_rfr2)] []) true Try.f24 [.dat (.slc (.agg [.one, .one, .one, .one, .agg [.one, .one]]) ls), .dat (.int .i64 t), .dat (.int .i64 w)] [] =
  (bif okIs ls then 
   (bif !rrt_v0 ls then some ([AV.dat (D.slc (Sh.agg [Sh.one, Sh.one, Sh.one, Sh.one, Sh.agg [Sh.one, Sh.one]]) []), AV.dat (D.int IntKind.i64 (1 : Int))], []) else 
    (bif !rnum_v0 t then some ([AV.dat (D.slc (Sh.agg [Sh.one, Sh.one, Sh.one, Sh.one, Sh.agg [Sh.one, Sh.one]]) []), AV.dat (D.int IntKind.i64 (1 : Int))], []) else 
     (bif !rnum_v0 w then some ([AV.dat (D.slc (Sh.agg [Sh.one, Sh.one, Sh.one, Sh.one, Sh.agg [Sh.one, Sh.one]]) []), AV.dat (D.int IntKind.i64 (1 : Int))], []) else 
      (bif okM ls && D.eqbL ls ls then some ([AV.dat (D.slc (Sh.agg [Sh.one, Sh.one, Sh.one, Sh.one, Sh.agg [Sh.one, Sh.one]]) (rfrTo ls t w (List.length ls))), AV.dat (D.int IntKind.i64 (0 : Int))], []) else none)))) else none) := by kernel_rfl
theorem rfree_case0 (ls : List D) (t w : Int) : runF (envOf tab SpR [] [(5, L_rfr2)] []) true Try.f24 [.dat (.slc (.agg [.one, .one, .one, .one, .agg [.one, .one]]) ls), .dat (.int .i64 t), .dat (.int .i64 w)] [] = FunT.run C_rfree [.dat (.slc (.agg [.one, .one, .one, .one, .agg [.one, .one]]) ls), .dat (.int .i64 t), .dat (.int .i64 w)] [] := (rfree_raw0 ls t w).trans (by
  show _ = (cond (okIs ls && (!rrt_v0 ls || (!rnum_v0 t || (!rnum_v0 w || okM ls && D.eqbL ls ls)))) (some (([AV.dat (D.slc (Sh.agg [Sh.one, Sh.one, Sh.one, Sh.one, Sh.agg [Sh.one, Sh.one]]) (bif rrt_v0 ls then bif rnum_v0 t then bif rnum_v0 w then rfrTo ls t w (List.length ls) else [] else [] else [])), AV.dat (D.int IntKind.i64 (bif rrt_v0 ls then bif rnum_v0 t then bif rnum_v0 w then (0 : Int) else (1 : Int) else (1 : Int) else (1 : Int)))], []) : Res)) none)
  generalize (okM ls && D.eqbL ls ls) = z0
  generalize (okIs ls) = z1
  generalize (rrt_v0 ls) = z2
  generalize (rnum_v0 t) = z3
  generalize (rnum_v0 w) = z4
  cases z1 with
  | true =>
   cases z2 with
   | true =>
    cases z3 with
    | true =>
     cases z4 with
     | true =>
      cases z0 with
      | true =>
       rfl
      | false =>
       rfl
     | false =>
      rfl
    | false =>
     rfl
   | false =>
    rfl
  | false =>
   rfl
  )
theorem crfree_ok : FunOk Try.prog 24 (FunT.run C_rfree) := by
  refine fun_ok (E := envOf tab SpR [] [(5, L_rfr2)] []) (fz := true) (fn := Try.f24) (envOf_ok progOk SpR_ok) (by kernel_rfl) (by kernel_rfl) (loops_one (by kernel_rfl) (rfr2_loopOk _ rfl)) ?_
  intro args σ r h
  unfold C_rfree at h
  split at h
  · exact (rfree_case0 _ _ _).trans h
  · simp [T.run_fail] at h

def rscrap_v0 (ls : List D) (i : Int) (w : Int) : List D := bif rrt_v0 ls then bif rnum_v0 w then bif rinh_v0 ls i w then rset_v0 ls i false { data := { toList := [] } } (0 : Int) (0 : Int) (0 : Int) (0 : Int) else [] else [] else []
def rscrap_v1 (ls : List D) (i : Int) (w : Int) : Int := bif rrt_v0 ls then bif rnum_v0 w then bif rinh_v0 ls i w then (0 : Int) else (3 : Int) else (1 : Int) else (1 : Int)
def rscrap_pre (ls : List D) (i : Int) (w : Int) : Bool := okIs ls && (!rrt_v0 ls || (!rnum_v0 w || rinh_pre ls i && (!rinh_v0 ls i w || rset_pre ls i false { data := { toList := [] } } (0 : Int) (0 : Int) (0 : Int) (0 : Int))))
def C_rscrap : FunT := fun args σ => match args, σ with
  | [AV.dat (D.slc (Sh.agg [Sh.one, Sh.one, Sh.one, Sh.one, Sh.agg [Sh.one, Sh.one]]) ls), AV.dat (D.int IntKind.i64 i), AV.dat (D.int IntKind.i64 w)], [] => .chk ((rscrap_pre ls i w)) (.leaf ([AV.dat (D.slc (Sh.agg [Sh.one, Sh.one, Sh.one, Sh.one, Sh.agg [Sh.one, Sh.one]]) (rscrap_v0 ls i w)), AV.dat (D.int IntKind.i64 (rscrap_v1 ls i w))], []))
  | _, _ => .fail
theorem rscrap_raw0 (ls : List D) (i w : Int) : runF (envOf tab SpR [] [] []) true Try.f15 [.dat (.slc (.agg [.one, .one, .one, .one, .agg [.one, .one]]) ls), .dat (.int .i64 i), .dat (.int .i64 w)] [] =
  (bif okIs ls then 
   (bif !rrt_v0 ls then some ([AV.dat (D.slc (Sh.agg [Sh.one, Sh.one, Sh.one, Sh.one, Sh.agg [Sh.one, Sh.one]]) []), AV.dat (D.int IntKind.i64 (1 : Int))], []) else 
    (bif !rnum_v0 w then some ([AV.dat (D.slc (Sh.agg [Sh.one, Sh.one, Sh.one, Sh.one, Sh.agg [Sh.one, Sh.one]]) []), AV.dat (D.int IntKind.i64 (1 : Int))], []) else 
     (bif rinh_pre ls i then 
      (bif !rinh_v0 ls i w then some ([AV.dat (D.slc (Sh.agg [Sh.one, Sh.one, Sh.one, Sh.one, Sh.agg [Sh.one, Sh.one]]) []), AV.dat (D.int IntKind.i64 (3 : Int))], []) else 
       (bif rset_pre ls i false { data := { toList := [] } } (0 : Int) (0 : Int) (0 : Int) (0 : Int) then some ([AV.dat (D.slc (Sh.agg [Sh.one, Sh.one, Sh.one, Sh.one, Sh.agg [Sh.one, Sh.one]]) (rset_v0 ls i false { data := { toList := [] } } (0 : Int) (0 : Int) (0 : Int) (0 : Int))), AV.dat (D.int IntKind.i64 (0 : Int))], []) else none)) else none))) else none) := by kernel_rfl
theorem rscrap_case0 (ls : List D) (i w : Int) : runF (envOf tab SpR [] [] []) true Try.f15 [.dat (.slc (.agg [.one, .one, .one, .one, .agg [.one, .one]]) ls), .dat (.int .i64 i), .dat (.int .i64 w)] [] = FunT.run C_rscrap [.dat (.slc (.agg [.one, .one, .one, .one, .agg [.one, .one]]) ls), .dat (.int .i64 i), .dat (.int .i64 w)] [] := (rscrap_raw0 ls i w).trans (by
  show _ = (cond (okIs ls && (!rrt_v0 ls || (!rnum_v0 w || rinh_pre ls i && (!rinh_v0 ls i w || rset_pre ls i false { data := { toList := [] } } (0 : Int) (0 : Int) (0 : Int) (0 : Int))))) (some (([AV.dat (D.slc (Sh.agg [Sh.one, Sh.one, Sh.one, Sh.one, Sh.agg [Sh.one, Sh.one]]) (bif rrt_v0 ls then bif rnum_v0 w then bif rinh_v0 ls i w then rset_v0 ls i false { data := { toList := [] } } (0 : Int) (0 : Int) (0 : Int) (0 : Int) else [] else [] else [])), AV.dat (D.int IntKind.i64 (bif rrt_v0 ls then bif rnum_v0 w then bif rinh_v0 ls i w then (0 : Int) else (3 : Int) else (1 : Int) else (1 : Int)))], []) : Res)) none)
  generalize (rset_pre ls i false { data := { toList := [] } } (0 : Int) (0 : Int) (0 : Int) (0 : Int)) = z0
  generalize (rinh_v0 ls i w) = z1
  generalize (rinh_pre ls i) = z2
  generalize (okIs ls) = z3
  generalize (rrt_v0 ls) = z4
  generalize (rnum_v0 w) = z5
  cases z3 with
  | true =>
   cases z4 with
   | true =>
    cases z5 with
    | true =>
     cases z2 with
     | true =>
      cases z1 with
      | true =>
       cases z0 with
       | true =>
        rfl
       | false =>
        rfl
      | false =>
       rfl
     | false =>
      rfl
    | false =>
     rfl
   | false =>
    rfl
  | false =>
   rfl
  )
theorem crscrap_ok : FunOk Try.prog 15 (FunT.run C_rscrap) := by
  refine fun_ok (E := envOf tab SpR [] [] []) (fz := true) (fn := Try.f15) (envOf_ok progOk SpR_ok) (by kernel_rfl) (by kernel_rfl) (loops_none (by kernel_rfl)) ?_
  intro args σ r h
  unfold C_rscrap at h
  split at h
  · exact (rscrap_case0 _ _ _).trans h
  · simp [T.run_fail] at h

def rdrop_v0 (ls : List D) (i : Int) (w : Int) (a : Int) (b : Int) : List D := bif rrt_v0 ls then bif rnum_v0 w then bif rref_v0 a b then bif rinh_v0 ls i w then rset_v0 ls i true (D.getS (nthD (D.getL (nthD ls (Int.toNat i))) 1)) (2 : Int) (0 : Int) a b else [] else [] else [] else []
def rdrop_v1 (ls : List D) (i : Int) (w : Int) (a : Int) (b : Int) : Int := bif rrt_v0 ls then bif rnum_v0 w then bif rref_v0 a b then bif rinh_v0 ls i w then (0 : Int) else (3 : Int) else (1 : Int) else (1 : Int) else (1 : Int)
def rdrop_pre (ls : List D) (i : Int) (w : Int) (a : Int) (b : Int) : Bool := okIs ls && (!rrt_v0 ls || (!rnum_v0 w || (!rref_v0 a b || rinh_pre ls i && (!rinh_v0 ls i w || decide ((0 : Int) ≤ i) && (decide (Int.toNat i < List.length ls) && (okE (Ek.agg [Ek.bool, Ek.str, Ek.int IntKind.i64, Ek.int IntKind.i64, Ek.agg [Ek.int IntKind.i64, Ek.int IntKind.i64]]) (nthD ls (Int.toNat i)) && rset_pre ls i true (D.getS (nthD (D.getL (nthD ls (Int.toNat i))) 1)) (2 : Int) (0 : Int) a b))))))
def C_rdrop : FunT := fun args σ => match args, σ with
  | [AV.dat (D.slc (Sh.agg [Sh.one, Sh.one, Sh.one, Sh.one, Sh.agg [Sh.one, Sh.one]]) ls), AV.dat (D.int IntKind.i64 i), AV.dat (D.int IntKind.i64 w), AV.dat (D.agg [D.int IntKind.i64 a, D.int IntKind.i64 b])], [] => .chk ((rdrop_pre ls i w a b)) (.leaf ([AV.dat (D.slc (Sh.agg [Sh.one, Sh.one, Sh.one, Sh.one, Sh.agg [Sh.one, Sh.one]]) (rdrop_v0 ls i w a b)), AV.dat (D.int IntKind.i64 (rdrop_v1 ls i w a b))], []))
  | _, _ => .fail
theorem rdrop_raw0 (ls : List D) (i w a b : Int) : runF (envOf tab SpR [] [] []) true Try.f17 [.dat (.slc (.agg [.one, .one, .one, .one, .agg [.one, .one]]) ls), .dat (.int .i64 i), .dat (.int .i64 w), .dat (.agg [.int .i64 a, .int .i64 b])] [] =
  (bif okIs ls then 
   (bif !rrt_v0 ls then some ([AV.dat (D.slc (Sh.agg [Sh.one, Sh.one, Sh.one, Sh.one, Sh.agg [Sh.one, Sh.one]]) []), AV.dat (D.int IntKind.i64 (1 : Int))], []) else 
    (bif !rnum_v0 w then some ([AV.dat (D.slc (Sh.agg [Sh.one, Sh.one, Sh.one, Sh.one, Sh.agg [Sh.one, Sh.one]]) []), AV.dat (D.int IntKind.i64 (1 : Int))], []) else 
     (bif !rref_v0 a b then some ([AV.dat (D.slc (Sh.agg [Sh.one, Sh.one, Sh.one, Sh.one, Sh.agg [Sh.one, Sh.one]]) []), AV.dat (D.int IntKind.i64 (1 : Int))], []) else 
      (bif rinh_pre ls i then 
       (bif !rinh_v0 ls i w then some ([AV.dat (D.slc (Sh.agg [Sh.one, Sh.one, Sh.one, Sh.one, Sh.agg [Sh.one, Sh.one]]) []), AV.dat (D.int IntKind.i64 (3 : Int))], []) else 
        (bif decide ((0 : Int) ≤ i) then 
         (bif decide (Int.toNat i < List.length ls) then 
          (bif okE (Ek.agg [Ek.bool, Ek.str, Ek.int IntKind.i64, Ek.int IntKind.i64, Ek.agg [Ek.int IntKind.i64, Ek.int IntKind.i64]]) (nthD ls (Int.toNat i)) then 
           (bif rset_pre ls i true (D.getS (nthD (D.getL (nthD ls (Int.toNat i))) 1)) (2 : Int) (0 : Int) a b then some ([AV.dat (D.slc (Sh.agg [Sh.one, Sh.one, Sh.one, Sh.one, Sh.agg [Sh.one, Sh.one]]) (rset_v0 ls i true (D.getS (nthD (D.getL (nthD ls (Int.toNat i))) 1)) (2 : Int) (0 : Int) a b)), AV.dat (D.int IntKind.i64 (0 : Int))], []) else none) else none) else none) else none)) else none)))) else none) := by kernel_rfl
theorem rdrop_case0 (ls : List D) (i w a b : Int) : runF (envOf tab SpR [] [] []) true Try.f17 [.dat (.slc (.agg [.one, .one, .one, .one, .agg [.one, .one]]) ls), .dat (.int .i64 i), .dat (.int .i64 w), .dat (.agg [.int .i64 a, .int .i64 b])] [] = FunT.run C_rdrop [.dat (.slc (.agg [.one, .one, .one, .one, .agg [.one, .one]]) ls), .dat (.int .i64 i), .dat (.int .i64 w), .dat (.agg [.int .i64 a, .int .i64 b])] [] := (rdrop_raw0 ls i w a b).trans (by
  show _ = (cond (okIs ls && (!rrt_v0 ls || (!rnum_v0 w || (!rref_v0 a b || rinh_pre ls i && (!rinh_v0 ls i w || decide ((0 : Int) ≤ i) && (decide (Int.toNat i < List.length ls) && (okE (Ek.agg [Ek.bool, Ek.str, Ek.int IntKind.i64, Ek.int IntKind.i64, Ek.agg [Ek.int IntKind.i64, Ek.int IntKind.i64]]) (nthD ls (Int.toNat i)) && rset_pre ls i true (D.getS (nthD (D.getL (nthD ls (Int.toNat i))) 1)) (2 : Int) (0 : Int) a b))))))) (some (([AV.dat (D.slc (Sh.agg [Sh.one, Sh.one, Sh.one, Sh.one, Sh.agg [Sh.one, Sh.one]]) (bif rrt_v0 ls then bif rnum_v0 w then bif rref_v0 a b then bif rinh_v0 ls i w then rset_v0 ls i true (D.getS (nthD (D.getL (nthD ls (Int.toNat i))) 1)) (2 : Int) (0 : Int) a b else [] else [] else [] else [])), AV.dat (D.int IntKind.i64 (bif rrt_v0 ls then bif rnum_v0 w then bif rref_v0 a b then bif rinh_v0 ls i w then (0 : Int) else (3 : Int) else (1 : Int) else (1 : Int) else (1 : Int)))], []) : Res)) none)
  generalize (okE (Ek.agg [Ek.bool, Ek.str, Ek.int IntKind.i64, Ek.int IntKind.i64, Ek.agg [Ek.int IntKind.i64, Ek.int IntKind.i64]]) (nthD ls (Int.toNat i))) = z0
  generalize (rset_pre ls i true (D.getS (nthD (D.getL (nthD ls (Int.toNat i))) 1)) (2 : Int) (0 : Int) a b) = z1
  generalize (decide ((0 : Int) ≤ i)) = z2
  generalize (decide (Int.toNat i < List.length ls)) = z3
  generalize (rinh_v0 ls i w) = z4
  generalize (rinh_pre ls i) = z5
  generalize (rref_v0 a b) = z6
  generalize (rrt_v0 ls) = z7
  generalize (rnum_v0 w) = z8
  generalize (okIs ls) = z9
  cases z9 with
  | true =>
   cases z7 with
   | true =>
    cases z8 with
    | true =>
     cases z6 with
     | true =>
      cases z5 with
      | true =>
       cases z4 with
       | true =>
        cases z2 with
        | true =>
         cases z3 with
         | true =>
          cases z0 with
          | true =>
           cases z1 with
           | true =>
            rfl
           | false =>
            rfl
          | false =>
           rfl
         | false =>
          rfl
        | false =>
         rfl
       | false =>
        rfl
      | false =>
       rfl
     | false =>
      rfl
    | false =>
     rfl
   | false =>
    rfl
  | false =>
   rfl
  )
theorem crdrop_ok : FunOk Try.prog 17 (FunT.run C_rdrop) := by
  refine fun_ok (E := envOf tab SpR [] [] []) (fz := true) (fn := Try.f17) (envOf_ok progOk SpR_ok) (by kernel_rfl) (by kernel_rfl) (loops_none (by kernel_rfl)) ?_
  intro args σ r h
  unfold C_rdrop at h
  split at h
  · exact (rdrop_case0 _ _ _ _ _).trans h
  · simp [T.run_fail] at h

def rtake_v0 (ls : List D) (i : Int) (w : Int) (a : Int) (b : Int) : List D := bif rrt_v0 ls then bif rnum_v0 w then bif rref_v0 a b then bif decide (i < (0 : Int)) then [] else bif decide ((↑(List.length ls) : Int) ≤ i) then [] else bif D.getB (nthD (D.getL (nthD ls (Int.toNat i))) 0) then bif D.getI (nthD (D.getL (nthD ls (Int.toNat i))) 2) != (2 : Int) then [] else bif D.getI (nthD (D.getL (nthD (D.getL (nthD ls (Int.toNat i))) 4)) 0) == a && (D.getI (nthD (D.getL (nthD (D.getL (nthD ls (Int.toNat i))) 4)) 1) == b && true) then rset_v0 ls i true (D.getS (nthD (D.getL (nthD ls (Int.toNat i))) 1)) (1 : Int) w (0 : Int) (0 : Int) else [] else [] else [] else [] else []
def rtake_v1 (ls : List D) (i : Int) (w : Int) (a : Int) (b : Int) : Int := bif rrt_v0 ls then bif rnum_v0 w then bif rref_v0 a b then bif decide (i < (0 : Int)) then (3 : Int) else bif decide ((↑(List.length ls) : Int) ≤ i) then (3 : Int) else bif D.getB (nthD (D.getL (nthD ls (Int.toNat i))) 0) then bif D.getI (nthD (D.getL (nthD ls (Int.toNat i))) 2) != (2 : Int) then (3 : Int) else bif D.getI (nthD (D.getL (nthD (D.getL (nthD ls (Int.toNat i))) 4)) 0) == a && (D.getI (nthD (D.getL (nthD (D.getL (nthD ls (Int.toNat i))) 4)) 1) == b && true) then (0 : Int) else (3 : Int) else (3 : Int) else (1 : Int) else (1 : Int) else (1 : Int)
def rtake_pre (ls : List D) (i : Int) (w : Int) (a : Int) (b : Int) : Bool := okIs ls && (!rrt_v0 ls || (!rnum_v0 w || (!rref_v0 a b || (decide (i < (0 : Int)) || (decide ((↑(List.length ls) : Int) ≤ i) || decide ((0 : Int) ≤ i) && (decide (Int.toNat i < List.length ls) && (okE (Ek.agg [Ek.bool, Ek.str, Ek.int IntKind.i64, Ek.int IntKind.i64, Ek.agg [Ek.int IntKind.i64, Ek.int IntKind.i64]]) (nthD ls (Int.toNat i)) && (!D.getB (nthD (D.getL (nthD ls (Int.toNat i))) 0) || (D.getI (nthD (D.getL (nthD ls (Int.toNat i))) 2) != (2 : Int) || (!(D.getI (nthD (D.getL (nthD (D.getL (nthD ls (Int.toNat i))) 4)) 0) == a && (D.getI (nthD (D.getL (nthD (D.getL (nthD ls (Int.toNat i))) 4)) 1) == b && true)) || rset_pre ls i true (D.getS (nthD (D.getL (nthD ls (Int.toNat i))) 1)) (1 : Int) w (0 : Int) (0 : Int)))))))))))
def C_rtake : FunT := fun args σ => match args, σ with
  | [AV.dat (D.slc (Sh.agg [Sh.one, Sh.one, Sh.one, Sh.one, Sh.agg [Sh.one, Sh.one]]) ls), AV.dat (D.int IntKind.i64 i), AV.dat (D.int IntKind.i64 w), AV.dat (D.agg [D.int IntKind.i64 a, D.int IntKind.i64 b])], [] => .chk ((rtake_pre ls i w a b)) (.leaf ([AV.dat (D.slc (Sh.agg [Sh.one, Sh.one, Sh.one, Sh.one, Sh.agg [Sh.one, Sh.one]]) (rtake_v0 ls i w a b)), AV.dat (D.int IntKind.i64 (rtake_v1 ls i w a b))], []))
  | _, _ => .fail
theorem rtake_raw0 (ls : List D) (i w a b : Int) : runF (envOf tab SpR [] [] []) true Try.f19 [.dat (.slc (.agg [.one, .one, .one, .one, .agg [.one, .one]]) ls), .dat (.int .i64 i), .dat (.int .i64 w), .dat (.agg [.int .i64 a, .int .i64 b])] [] =
  (bif okIs ls then 
   (bif !rrt_v0 ls then some ([AV.dat (D.slc (Sh.agg [Sh.one, Sh.one, Sh.one, Sh.one, Sh.agg [Sh.one, Sh.one]]) []), AV.dat (D.int IntKind.i64 (1 : Int))], []) else 
    (bif !rnum_v0 w then some ([AV.dat (D.slc (Sh.agg [Sh.one, Sh.one, Sh.one, Sh.one, Sh.agg [Sh.one, Sh.one]]) []), AV.dat (D.int IntKind.i64 (1 : Int))], []) else 
     (bif !rref_v0 a b then some ([AV.dat (D.slc (Sh.agg [Sh.one, Sh.one, Sh.one, Sh.one, Sh.agg [Sh.one, Sh.one]]) []), AV.dat (D.int IntKind.i64 (1 : Int))], []) else 
      (bif decide (i < (0 : Int)) then some ([AV.dat (D.slc (Sh.agg [Sh.one, Sh.one, Sh.one, Sh.one, Sh.agg [Sh.one, Sh.one]]) []), AV.dat (D.int IntKind.i64 (3 : Int))], []) else 
       (bif decide (i ≥ (↑(List.length ls) : Int)) then some ([AV.dat (D.slc (Sh.agg [Sh.one, Sh.one, Sh.one, Sh.one, Sh.agg [Sh.one, Sh.one]]) []), AV.dat (D.int IntKind.i64 (3 : Int))], []) else 
        (bif decide ((0 : Int) ≤ i) then 
         (bif decide (Int.toNat i < List.length ls) then 
          (bif okE (Ek.agg [Ek.bool, Ek.str, Ek.int IntKind.i64, Ek.int IntKind.i64, Ek.agg [Ek.int IntKind.i64, Ek.int IntKind.i64]]) (nthD ls (Int.toNat i)) then 
           (bif !D.getB (nthD (D.getL (nthD ls (Int.toNat i))) 0) then some ([AV.dat (D.slc (Sh.agg [Sh.one, Sh.one, Sh.one, Sh.one, Sh.agg [Sh.one, Sh.one]]) []), AV.dat (D.int IntKind.i64 (3 : Int))], []) else 
            (bif decide ((0 : Int) ≤ i) then 
             (bif decide (Int.toNat i < List.length ls) then 
              (bif okE (Ek.agg [Ek.bool, Ek.str, Ek.int IntKind.i64, Ek.int IntKind.i64, Ek.agg [Ek.int IntKind.i64, Ek.int IntKind.i64]]) (nthD ls (Int.toNat i)) then 
               (bif D.getI (nthD (D.getL (nthD ls (Int.toNat i))) 2) != (2 : Int) then some ([AV.dat (D.slc (Sh.agg [Sh.one, Sh.one, Sh.one, Sh.one, Sh.agg [Sh.one, Sh.one]]) []), AV.dat (D.int IntKind.i64 (3 : Int))], []) else 
                (bif decide ((0 : Int) ≤ i) then 
                 (bif decide (Int.toNat i < List.length ls) then 
                  (bif okE (Ek.agg [Ek.bool, Ek.str, Ek.int IntKind.i64, Ek.int IntKind.i64, Ek.agg [Ek.int IntKind.i64, Ek.int IntKind.i64]]) (nthD ls (Int.toNat i)) then 
                   (bif true != (D.getI (nthD (D.getL (nthD (D.getL (nthD ls (Int.toNat i))) 4)) 0) == a && (D.getI (nthD (D.getL (nthD (D.getL (nthD ls (Int.toNat i))) 4)) 1) == b && true)) then some ([AV.dat (D.slc (Sh.agg [Sh.one, Sh.one, Sh.one, Sh.one, Sh.agg [Sh.one, Sh.one]]) []), AV.dat (D.int IntKind.i64 (3 : Int))], []) else 
                    (bif decide ((0 : Int) ≤ i) then 
                     (bif decide (Int.toNat i < List.length ls) then 
                      (bif okE (Ek.agg [Ek.bool, Ek.str, Ek.int IntKind.i64, Ek.int IntKind.i64, Ek.agg [Ek.int IntKind.i64, Ek.int IntKind.i64]]) (nthD ls (Int.toNat i)) then 
                       (bif rset_pre ls i true (D.getS (nthD (D.getL (nthD ls (Int.toNat i))) 1)) (1 : Int) w (0 : Int) (0 : Int) then some ([AV.dat (D.slc (Sh.agg [Sh.one, Sh.one, Sh.one, Sh.one, Sh.agg [Sh.one, Sh.one]]) (rset_v0 ls i true (D.getS (nthD (D.getL (nthD ls (Int.toNat i))) 1)) (1 : Int) w (0 : Int) (0 : Int))), AV.dat (D.int IntKind.i64 (0 : Int))], []) else none) else none) else none) else none)) else none) else none) else none)) else none) else none) else none)) else none) else none) else none)))))) else none) := by kernel_rfl
theorem rtake_case0 (ls : List D) (i w a b : Int) : runF (envOf tab SpR [] [] []) true Try.f19 [.dat (.slc (.agg [.one, .one, .one, .one, .agg [.one, .one]]) ls), .dat (.int .i64 i), .dat (.int .i64 w), .dat (.agg [.int .i64 a, .int .i64 b])] [] = FunT.run C_rtake [.dat (.slc (.agg [.one, .one, .one, .one, .agg [.one, .one]]) ls), .dat (.int .i64 i), .dat (.int .i64 w), .dat (.agg [.int .i64 a, .int .i64 b])] [] := (rtake_raw0 ls i w a b).trans (by
  show _ = (cond (okIs ls && (!rrt_v0 ls || (!rnum_v0 w || (!rref_v0 a b || (decide (i < (0 : Int)) || (decide ((↑(List.length ls) : Int) ≤ i) || decide ((0 : Int) ≤ i) && (decide (Int.toNat i < List.length ls) && (okE (Ek.agg [Ek.bool, Ek.str, Ek.int IntKind.i64, Ek.int IntKind.i64, Ek.agg [Ek.int IntKind.i64, Ek.int IntKind.i64]]) (nthD ls (Int.toNat i)) && (!D.getB (nthD (D.getL (nthD ls (Int.toNat i))) 0) || (D.getI (nthD (D.getL (nthD ls (Int.toNat i))) 2) != (2 : Int) || (!(D.getI (nthD (D.getL (nthD (D.getL (nthD ls (Int.toNat i))) 4)) 0) == a && (D.getI (nthD (D.getL (nthD (D.getL (nthD ls (Int.toNat i))) 4)) 1) == b && true)) || rset_pre ls i true (D.getS (nthD (D.getL (nthD ls (Int.toNat i))) 1)) (1 : Int) w (0 : Int) (0 : Int)))))))))))) (some (([AV.dat (D.slc (Sh.agg [Sh.one, Sh.one, Sh.one, Sh.one, Sh.agg [Sh.one, Sh.one]]) (bif rrt_v0 ls then bif rnum_v0 w then bif rref_v0 a b then bif decide (i < (0 : Int)) then [] else bif decide ((↑(List.length ls) : Int) ≤ i) then [] else bif D.getB (nthD (D.getL (nthD ls (Int.toNat i))) 0) then bif D.getI (nthD (D.getL (nthD ls (Int.toNat i))) 2) != (2 : Int) then [] else bif D.getI (nthD (D.getL (nthD (D.getL (nthD ls (Int.toNat i))) 4)) 0) == a && (D.getI (nthD (D.getL (nthD (D.getL (nthD ls (Int.toNat i))) 4)) 1) == b && true) then rset_v0 ls i true (D.getS (nthD (D.getL (nthD ls (Int.toNat i))) 1)) (1 : Int) w (0 : Int) (0 : Int) else [] else [] else [] else [] else [])), AV.dat (D.int IntKind.i64 (bif rrt_v0 ls then bif rnum_v0 w then bif rref_v0 a b then bif decide (i < (0 : Int)) then (3 : Int) else bif decide ((↑(List.length ls) : Int) ≤ i) then (3 : Int) else bif D.getB (nthD (D.getL (nthD ls (Int.toNat i))) 0) then bif D.getI (nthD (D.getL (nthD ls (Int.toNat i))) 2) != (2 : Int) then (3 : Int) else bif D.getI (nthD (D.getL (nthD (D.getL (nthD ls (Int.toNat i))) 4)) 0) == a && (D.getI (nthD (D.getL (nthD (D.getL (nthD ls (Int.toNat i))) 4)) 1) == b && true) then (0 : Int) else (3 : Int) else (3 : Int) else (1 : Int) else (1 : Int) else (1 : Int)))], []) : Res)) none)
  generalize (D.getI (nthD (D.getL (nthD (D.getL (nthD ls (Int.toNat i))) 4)) 0) == a && (D.getI (nthD (D.getL (nthD (D.getL (nthD ls (Int.toNat i))) 4)) 1) == b && true)) = z0
  generalize (okE (Ek.agg [Ek.bool, Ek.str, Ek.int IntKind.i64, Ek.int IntKind.i64, Ek.agg [Ek.int IntKind.i64, Ek.int IntKind.i64]]) (nthD ls (Int.toNat i))) = z1
  generalize (rset_pre ls i true (D.getS (nthD (D.getL (nthD ls (Int.toNat i))) 1)) (1 : Int) w (0 : Int) (0 : Int)) = z2
  generalize (D.getI (nthD (D.getL (nthD ls (Int.toNat i))) 2) != (2 : Int)) = z3
  generalize (decide ((↑(List.length ls) : Int) ≤ i)) = z4
  generalize (decide ((0 : Int) ≤ i)) = z5
  generalize (decide (i < (0 : Int))) = z6
  generalize (decide (Int.toNat i < List.length ls)) = z7
  generalize (D.getB (nthD (D.getL (nthD ls (Int.toNat i))) 0)) = z8
  generalize (rref_v0 a b) = z9
  generalize (rrt_v0 ls) = z10
  generalize (rnum_v0 w) = z11
  generalize (okIs ls) = z12
  cases z12 with
  | true =>
   cases z10 with
   | true =>
    cases z11 with
    | true =>
     cases z9 with
     | true =>
      cases z6 with
      | true =>
       rfl
      | false =>
       cases z4 with
       | true =>
        rfl
       | false =>
        cases z5 with
        | true =>
         cases z7 with
         | true =>
          cases z1 with
          | true =>
           cases z8 with
           | true =>
            cases z3 with
            | true =>
             rfl
            | false =>
             cases z0 with
             | true =>
              cases z2 with
              | true =>
               rfl
              | false =>
               rfl
             | false =>
              rfl
           | false =>
            rfl
          | false =>
           rfl
         | false =>
          rfl
        | false =>
         rfl
     | false =>
      rfl
    | false =>
     rfl
   | false =>
    rfl
  | false =>
   rfl
  )
theorem crtake_ok : FunOk Try.prog 19 (FunT.run C_rtake) := by
  refine fun_ok (E := envOf tab SpR [] [] []) (fz := true) (fn := Try.f19) (envOf_ok progOk SpR_ok) (by kernel_rfl) (by kernel_rfl) (loops_none (by kernel_rfl)) ?_
  intro args σ r h
  unfold C_rtake at h
  split at h
  · exact (rtake_case0 _ _ _ _ _).trans h
  · simp [T.run_fail] at h

def rgive_v0 (ls : List D) (i : Int) (w : Int) (k : Int) (t : Int) : List D := bif rrt_v0 ls then bif rnum_v0 w then bif rnum_v0 t then bif rinh_v0 ls i w then rset_v0 ls i true (D.getS (nthD (D.getL (nthD ls (Int.toNat i))) 1)) k t (0 : Int) (0 : Int) else [] else [] else [] else []
def rgive_v1 (ls : List D) (i : Int) (w : Int) (t : Int) : Int := bif rrt_v0 ls then bif rnum_v0 w then bif rnum_v0 t then bif rinh_v0 ls i w then (0 : Int) else (3 : Int) else (1 : Int) else (1 : Int) else (1 : Int)
def rgive_pre (ls : List D) (i : Int) (w : Int) (k : Int) (t : Int) : Bool := okIs ls && (!rrt_v0 ls || (!rnum_v0 w || (!rnum_v0 t || rinh_pre ls i && (!rinh_v0 ls i w || decide ((0 : Int) ≤ i) && (decide (Int.toNat i < List.length ls) && (okE (Ek.agg [Ek.bool, Ek.str, Ek.int IntKind.i64, Ek.int IntKind.i64, Ek.agg [Ek.int IntKind.i64, Ek.int IntKind.i64]]) (nthD ls (Int.toNat i)) && rset_pre ls i true (D.getS (nthD (D.getL (nthD ls (Int.toNat i))) 1)) k t (0 : Int) (0 : Int)))))))
def C_rgive : FunT := fun args σ => match args, σ with
  | [AV.dat (D.slc (Sh.agg [Sh.one, Sh.one, Sh.one, Sh.one, Sh.agg [Sh.one, Sh.one]]) ls), AV.dat (D.int IntKind.i64 i), AV.dat (D.int IntKind.i64 w), AV.dat (D.int IntKind.i64 k), AV.dat (D.int IntKind.i64 t)], [] => .chk ((rgive_pre ls i w k t)) (.leaf ([AV.dat (D.slc (Sh.agg [Sh.one, Sh.one, Sh.one, Sh.one, Sh.agg [Sh.one, Sh.one]]) (rgive_v0 ls i w k t)), AV.dat (D.int IntKind.i64 (rgive_v1 ls i w t))], []))
  | _, _ => .fail
theorem rgive_raw0 (ls : List D) (i w k t : Int) : runF (envOf tab SpR [] [] []) true Try.f21 [.dat (.slc (.agg [.one, .one, .one, .one, .agg [.one, .one]]) ls), .dat (.int .i64 i), .dat (.int .i64 w), .dat (.int .i64 k), .dat (.int .i64 t)] [] =
  (bif okIs ls then 
   (bif !rrt_v0 ls then some ([AV.dat (D.slc (Sh.agg [Sh.one, Sh.one, Sh.one, Sh.one, Sh.agg [Sh.one, Sh.one]]) []), AV.dat (D.int IntKind.i64 (1 : Int))], []) else 
    (bif !rnum_v0 w then some ([AV.dat (D.slc (Sh.agg [Sh.one, Sh.one, Sh.one, Sh.one, Sh.agg [Sh.one, Sh.one]]) []), AV.dat (D.int IntKind.i64 (1 : Int))], []) else 
     (bif !rnum_v0 t then some ([AV.dat (D.slc (Sh.agg [Sh.one, Sh.one, Sh.one, Sh.one, Sh.agg [Sh.one, Sh.one]]) []), AV.dat (D.int IntKind.i64 (1 : Int))], []) else 
      (bif rinh_pre ls i then 
       (bif !rinh_v0 ls i w then some ([AV.dat (D.slc (Sh.agg [Sh.one, Sh.one, Sh.one, Sh.one, Sh.agg [Sh.one, Sh.one]]) []), AV.dat (D.int IntKind.i64 (3 : Int))], []) else 
        (bif decide ((0 : Int) ≤ i) then 
         (bif decide (Int.toNat i < List.length ls) then 
          (bif okE (Ek.agg [Ek.bool, Ek.str, Ek.int IntKind.i64, Ek.int IntKind.i64, Ek.agg [Ek.int IntKind.i64, Ek.int IntKind.i64]]) (nthD ls (Int.toNat i)) then 
           (bif rset_pre ls i true (D.getS (nthD (D.getL (nthD ls (Int.toNat i))) 1)) k t (0 : Int) (0 : Int) then some ([AV.dat (D.slc (Sh.agg [Sh.one, Sh.one, Sh.one, Sh.one, Sh.agg [Sh.one, Sh.one]]) (rset_v0 ls i true (D.getS (nthD (D.getL (nthD ls (Int.toNat i))) 1)) k t (0 : Int) (0 : Int))), AV.dat (D.int IntKind.i64 (0 : Int))], []) else none) else none) else none) else none)) else none)))) else none) := by kernel_rfl
theorem rgive_case0 (ls : List D) (i w k t : Int) : runF (envOf tab SpR [] [] []) true Try.f21 [.dat (.slc (.agg [.one, .one, .one, .one, .agg [.one, .one]]) ls), .dat (.int .i64 i), .dat (.int .i64 w), .dat (.int .i64 k), .dat (.int .i64 t)] [] = FunT.run C_rgive [.dat (.slc (.agg [.one, .one, .one, .one, .agg [.one, .one]]) ls), .dat (.int .i64 i), .dat (.int .i64 w), .dat (.int .i64 k), .dat (.int .i64 t)] [] := (rgive_raw0 ls i w k t).trans (by
  show _ = (cond (okIs ls && (!rrt_v0 ls || (!rnum_v0 w || (!rnum_v0 t || rinh_pre ls i && (!rinh_v0 ls i w || decide ((0 : Int) ≤ i) && (decide (Int.toNat i < List.length ls) && (okE (Ek.agg [Ek.bool, Ek.str, Ek.int IntKind.i64, Ek.int IntKind.i64, Ek.agg [Ek.int IntKind.i64, Ek.int IntKind.i64]]) (nthD ls (Int.toNat i)) && rset_pre ls i true (D.getS (nthD (D.getL (nthD ls (Int.toNat i))) 1)) k t (0 : Int) (0 : Int)))))))) (some (([AV.dat (D.slc (Sh.agg [Sh.one, Sh.one, Sh.one, Sh.one, Sh.agg [Sh.one, Sh.one]]) (bif rrt_v0 ls then bif rnum_v0 w then bif rnum_v0 t then bif rinh_v0 ls i w then rset_v0 ls i true (D.getS (nthD (D.getL (nthD ls (Int.toNat i))) 1)) k t (0 : Int) (0 : Int) else [] else [] else [] else [])), AV.dat (D.int IntKind.i64 (bif rrt_v0 ls then bif rnum_v0 w then bif rnum_v0 t then bif rinh_v0 ls i w then (0 : Int) else (3 : Int) else (1 : Int) else (1 : Int) else (1 : Int)))], []) : Res)) none)
  generalize (okE (Ek.agg [Ek.bool, Ek.str, Ek.int IntKind.i64, Ek.int IntKind.i64, Ek.agg [Ek.int IntKind.i64, Ek.int IntKind.i64]]) (nthD ls (Int.toNat i))) = z0
  generalize (rset_pre ls i true (D.getS (nthD (D.getL (nthD ls (Int.toNat i))) 1)) k t (0 : Int) (0 : Int)) = z1
  generalize (decide ((0 : Int) ≤ i)) = z2
  generalize (decide (Int.toNat i < List.length ls)) = z3
  generalize (rinh_v0 ls i w) = z4
  generalize (rinh_pre ls i) = z5
  generalize (rrt_v0 ls) = z6
  generalize (rnum_v0 w) = z7
  generalize (rnum_v0 t) = z8
  generalize (okIs ls) = z9
  cases z9 with
  | true =>
   cases z6 with
   | true =>
    cases z7 with
    | true =>
     cases z8 with
     | true =>
      cases z5 with
      | true =>
       cases z4 with
       | true =>
        cases z2 with
        | true =>
         cases z3 with
         | true =>
          cases z0 with
          | true =>
           cases z1 with
           | true =>
            rfl
           | false =>
            rfl
          | false =>
           rfl
         | false =>
          rfl
        | false =>
         rfl
       | false =>
        rfl
      | false =>
       rfl
     | false =>
      rfl
    | false =>
     rfl
   | false =>
    rfl
  | false =>
   rfl
  )
theorem crgive_ok : FunOk Try.prog 21 (FunT.run C_rgive) := by
  refine fun_ok (E := envOf tab SpR [] [] []) (fz := true) (fn := Try.f21) (envOf_ok progOk SpR_ok) (by kernel_rfl) (by kernel_rfl) (loops_none (by kernel_rfl)) ?_
  intro args σ r h
  unfold C_rgive at h
  split at h
  · exact (rgive_case0 _ _ _ _ _).trans h
  · simp [T.run_fail] at h


end Go.Proofs.Ytnegedbjcjfndaa
