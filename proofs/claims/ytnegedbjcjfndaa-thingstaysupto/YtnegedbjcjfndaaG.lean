/- Seat 16: Free, and the document's deeds. -/
import Derived.Test.YtnegedbjcjfndaaF
namespace Go.Proofs.Ytnegedbjcjfndaa
open Go.AX
set_option maxRecDepth 100000

abbrev SpF : Specs := (32, C_slots) :: (48, C_icB) :: SpI2
theorem SpF_ok : SpecsOk Try.prog SpF := .cons cslots_ok (.cons cicB_ok SpI2_ok)
def pf0_fr (ls is : List D) (w n : Int) : Int → Frame' := fun j => mkF 49 [(0, .dat (.slc (.agg [.one, .one, .one, .one, .agg [.one, .one]]) ls)), (2, .dat (.int .i64 w)), (8, .dat (.slc (.agg [.one, .one, .one, .one, .agg [.one, .one]]) [])), (31, .dat (.slc .one is)), (32, .dat (.int .i64 n)), (33, .dat (.int .i64 j))]
def pf0_st (_ _ : List D) (_ _ : Int) : Int → Store := fun _ => []
def pf0_step (_ _ : List D) (_ n : Int) : Int → T (Int ⊕ LOut) := fun j => 
  .chk (!decide (j < n)) (.leaf (.inr ((some 0), mkF 49 [(8, AV.dat (D.slc (Sh.agg [Sh.one, Sh.one, Sh.one, Sh.one, Sh.agg [Sh.one, Sh.one]]) []))], [])))
theorem pf0_round (lp : Loops) (ls is : List D) (w n : Int) (j : Int) (K : Kt) : oneRound (envOf tab SpF [] lp []) Try.f23 0 (0) (mkF 49 [(0, .dat (.slc (.agg [.one, .one, .one, .one, .agg [.one, .one]]) ls)), (2, .dat (.int .i64 w)), (8, .dat (.slc (.agg [.one, .one, .one, .one, .agg [.one, .one]]) [])), (31, .dat (.slc .one is)), (32, .dat (.int .i64 n)), (33, .dat (.int .i64 j))]) ([]) K =
  (bif decide (j < n) then 
   (bif decide ((0 : Int) ≤ j) then 
    (bif decide (Int.toNat j < List.length is) then 
     (bif okE (Ek.int IntKind.i64) (nthD is (Int.toNat j)) then 
      (bif decide ((0 : Int) ≤ D.getI (nthD is (Int.toNat j))) then 
       (bif decide (Int.toNat (D.getI (nthD is (Int.toNat j))) < List.length ls) then 
        (bif okE (Ek.agg [Ek.bool, Ek.str, Ek.int IntKind.i64, Ek.int IntKind.i64, Ek.agg [Ek.int IntKind.i64, Ek.int IntKind.i64]]) (nthD ls (Int.toNat (D.getI (nthD is (Int.toNat j))))) then 
         (bif toi_pre w (0 : Int) (0 : Int) then 
          (bif decide ((0 : Int) ≤ D.getI (nthD is (Int.toNat j))) then none else none) else none) else none) else none) else none) else none) else none) else none) else K (Exit.exit 0) (mkF 49 [(8, AV.dat (D.slc (Sh.agg [Sh.one, Sh.one, Sh.one, Sh.one, Sh.agg [Sh.one, Sh.one]]) []))]) ([])) := by kernel_rfl
theorem pf0_hr (lp : Loops) (ls is : List D) (w n : Int) : ∀ (sA : Int) (K : Kt) (N : Int → Option Res), (∀ sB fr' σ', cleanF (liveAt Try.f23 0) 0 fr' = pf0_fr ls is w n sB → trim (0) (pf0_fr ls is w n sB) σ' = pf0_st ls is w n sB → K .normal fr' σ' = N sB) →
    oneRound (envOf tab SpF [] lp []) Try.f23 0 (0) (pf0_fr ls is w n sA) (pf0_st ls is w n sA) K = (pf0_step ls is w n sA).k (LK K N) := by
  intro j K N hN
  refine (pf0_round lp ls is w n j K).trans ?_
  show _ = T.k ((
  .chk (!decide (j < n)) (.leaf (.inr ((some 0), mkF 49 [(8, AV.dat (D.slc (Sh.agg [Sh.one, Sh.one, Sh.one, Sh.one, Sh.agg [Sh.one, Sh.one]]) []))], [])))) : T (Int ⊕ LOut)) (LK K N)
  generalize (okE (Ek.agg [Ek.bool, Ek.str, Ek.int IntKind.i64, Ek.int IntKind.i64, Ek.agg [Ek.int IntKind.i64, Ek.int IntKind.i64]]) (nthD ls (Int.toNat (D.getI (nthD is (Int.toNat j)))))) = z0
  generalize (decide ((0 : Int) ≤ D.getI (nthD is (Int.toNat j)))) = z1
  generalize (decide (Int.toNat (D.getI (nthD is (Int.toNat j))) < List.length ls)) = z2
  generalize (decide ((0 : Int) ≤ j)) = z3
  generalize (decide (Int.toNat j < List.length is)) = z4
  generalize (toi_pre w (0 : Int) (0 : Int)) = z5
  generalize (decide (j < n)) = z6
  generalize (okE (Ek.int IntKind.i64) (nthD is (Int.toNat j))) = z7
  cases z6 with
  | true =>
   cases z3 with
   | true =>
    cases z4 with
    | true =>
     cases z7 with
     | true =>
      cases z1 with
      | true =>
       cases z2 with
       | true =>
        cases z0 with
        | true =>
         cases z5 with
         | true =>
          rfl
         | false =>
          rfl
        | false =>
         rfl
       | false =>
        rfl
      | false =>
       rfl
     | false =>
      rfl
    | false =>
     rfl
   | false =>
    rfl
  | false =>
   rfl
theorem pf0_enter (ls is : List D) (w n : Int) (j : Int) (fr : Frame') (hl : Nat.beq fr.length 49 = true) (g0 : fr.getD 0 .undef = AV.dat (D.slc (Sh.agg [Sh.one, Sh.one, Sh.one, Sh.one, Sh.agg [Sh.one, Sh.one]]) ls)) (g2 : fr.getD 2 .undef = AV.dat (D.int IntKind.i64 w)) (g8 : fr.getD 8 .undef = AV.dat (D.slc (Sh.agg [Sh.one, Sh.one, Sh.one, Sh.one, Sh.agg [Sh.one, Sh.one]]) [])) (g31 : fr.getD 31 .undef = AV.dat (D.slc Sh.one is)) (g32 : fr.getD 32 .undef = AV.dat (D.int IntKind.i64 n)) (g33 : fr.getD 33 .undef = AV.dat (D.int IntKind.i64 j)) : cleanF (liveAt Try.f23 0) 0 fr = pf0_fr ls is w n j := by
  have e : liveAt Try.f23 0 = [32, 31, 0, 2, 33, 8] := by kernel_rfl
  rw [clean_mk (Nat.eq_of_beq_eq_true hl), e]
  show mkF 49 [(32, fr.getD 32 .undef), (31, fr.getD 31 .undef), (0, fr.getD 0 .undef), (2, fr.getD 2 .undef), (33, fr.getD 33 .undef), (8, fr.getD 8 .undef)] = _
  rw [g32, g31, g0, g2, g33, g8]
  kernel_rfl

theorem pf0_closed (ls is : List D) (w n : Int) (hc : decide (n = 0) = true) :
    ∃ z, (iterT (pf0_step ls is w n) z 0).run = T.run (.leaf (some 0, mkF 49 [(8, .dat (.slc (.agg [.one, .one, .one, .one, .agg [.one, .one]]) []))], [])) := by
  have := of_decide_eq_true hc
  subst this
  exact ⟨1, iter_out (by unfold pf0_step; rfl)⟩
def L_pf0 : Frame' → Store → T (Exit × Frame' × Store) := fun fr σ => match fr.getD 0 .undef, fr.getD 2 .undef, fr.getD 8 .undef, fr.getD 31 .undef, fr.getD 32 .undef, fr.getD 33 .undef, σ with
  | AV.dat (D.slc (Sh.agg [Sh.one, Sh.one, Sh.one, Sh.one, Sh.agg [Sh.one, Sh.one]]) _), AV.dat (D.int IntKind.i64 _), AV.dat (D.slc (Sh.agg [Sh.one, Sh.one, Sh.one, Sh.one, Sh.agg [Sh.one, Sh.one]]) []), AV.dat (D.slc Sh.one _), AV.dat (D.int IntKind.i64 n), AV.dat (D.int IntKind.i64 0), [] => .chk (Nat.beq fr.length 49 && (decide (n = 0))) (T.bind (.leaf (some 0, mkF 49 [(8, .dat (.slc (.agg [.one, .one, .one, .one, .agg [.one, .one]]) []))], [])) fun o => .leaf (outEx o.1, o.2.1, o.2.2))
  | _, _, _, _, _, _, _ => .fail
theorem pf0_sem (lp : Loops) : ∀ fr σ p, (L_pf0 fr σ).run = some p → ∀ (K : Kt) r, K p.1 p.2.1 p.2.2 = some r → ∃ n, loopRun (envOf tab SpF [] lp []) Try.f23 0 σ.length n (cleanF (liveAt Try.f23 0) 0 fr) σ K = some r := by
  intro fr σ p h K r hK
  unfold L_pf0 at h
  split at h
  · rename_i ls w is n g0 g2 g8 g31 g32 g33
    obtain ⟨hc, h'⟩ := T.chk_some h
    rw [Bool.and_eq_true] at hc
    obtain ⟨hl, hc⟩ := hc
    obtain ⟨o, ho, h'⟩ := T.bind_some h'
    have hp := T.leaf_some h'
    subst hp
    obtain ⟨nF, hn⟩ : ∃ nF, (iterT (pf0_step ls is w n) nF (0)).run = T.run (.leaf (some 0, mkF 49 [(8, .dat (.slc (.agg [.one, .one, .one, .one, .agg [.one, .one]]) []))], [])) := pf0_closed ls is w n hc
    rw [ho] at hn
    refine ⟨nF, ?_⟩
    have he : cleanF (liveAt Try.f23 0) 0 fr = pf0_fr ls is w n (0) := pf0_enter ls is w n _ fr hl g0 g2 g8 g31 g32 g33
    refine (iter_ok (base := 0) (pf0_hr lp ls is w n) K nF (0) _ _ (by rw [clean_clean]; exact he) (by kernel_rfl)).trans ?_
    rw [T.k_run hn]
    exact hK
  · simp [T.run_fail] at h
theorem pf0_loopOk (lp : Loops) (hk : Loops.get lp 5 = some L_pf0) : LoopOk (envOf tab SpF [] lp []) (loopAt Try.f23 0).1 (loopAt Try.f23 0).2 := loop_ok (L := L_pf0) hk (pf0_sem lp)


def pf2_fr (ls is : List D) (w n : Int) : (Int × Nat × Nat × List D) → Frame' := fun ⟨j, m, k, _⟩ => mkF 49 [(0, .dat (.slc (.agg [.one, .one, .one, .one, .agg [.one, .one]]) ls)), (2, .dat (.int .i64 w)), (8, .sref (.agg [.one, .one, .one, .one, .agg [.one, .one]]) 0 m [] 0 k), (31, .dat (.slc .one is)), (32, .dat (.int .i64 n)), (33, .dat (.int .i64 j))]
def pf2_st (_ _ : List D) (_ _ : Int) : (Int × Nat × Nat × List D) → Store := fun ⟨_, _, _, out⟩ => [mkDyn (.agg [.one, .one, .one, .one, .agg [.one, .one]]) out]
def pf2_step (ls is : List D) (w n : Int) : (Int × Nat × Nat × List D) → T ((Int × Nat × Nat × List D) ⊕ LOut) := fun ⟨j, m, k, out⟩ => 
  .chk (!decide (j < n) || decide ((0 : Int) ≤ j) && (decide (Int.toNat j < List.length is) && (okE (Ek.int IntKind.i64) (nthD is (Int.toNat j)) && (decide ((0 : Int) ≤ D.getI (nthD is (Int.toNat j))) && (decide (Int.toNat (D.getI (nthD is (Int.toNat j))) < List.length ls) && (okE (Ek.agg [Ek.bool, Ek.str, Ek.int IntKind.i64, Ek.int IntKind.i64, Ek.agg [Ek.int IntKind.i64, Ek.int IntKind.i64]]) (nthD ls (Int.toNat (D.getI (nthD is (Int.toNat j))))) && (toi_pre w (0 : Int) (0 : Int) && (decide (D.getI (nthD is (Int.toNat j)) < (↑k : Int)) && (Nat.beq (List.length out) m && (decide ((0 : Nat) + Int.toNat (D.getI (nthD is (Int.toNat j))) < List.length out) && (okS (Sh.agg [Sh.one, Sh.one, Sh.one, Sh.one, Sh.agg [Sh.one, Sh.one]]) (nthD out ((0 : Nat) + Int.toNat (D.getI (nthD is (Int.toNat j))))) && Sh.eqb (Sh.agg [D.shape (nthD (D.getL (nthD out ((0 : Nat) + Int.toNat (D.getI (nthD is (Int.toNat j)))))) 0), D.shape (nthD (D.getL (nthD out ((0 : Nat) + Int.toNat (D.getI (nthD is (Int.toNat j)))))) 1), D.shape (nthD (D.getL (nthD out ((0 : Nat) + Int.toNat (D.getI (nthD is (Int.toNat j)))))) 2), D.shape (nthD (D.getL (nthD out ((0 : Nat) + Int.toNat (D.getI (nthD is (Int.toNat j)))))) 3), Sh.agg [D.shape (nthD (D.getL (nthD (D.getL (nthD out ((0 : Nat) + Int.toNat (D.getI (nthD is (Int.toNat j)))))) 4)) 0), D.shape (nthD (D.getL (nthD (D.getL (nthD out ((0 : Nat) + Int.toNat (D.getI (nthD is (Int.toNat j)))))) 4)) 1)]]) (Sh.agg [Sh.one, Sh.one, Sh.one, Sh.one, Sh.agg [Sh.one, Sh.one]])))))))))))) (
   .br (!decide (j < n)) (.leaf (.inr ((some 0), mkF 49 [(8, AV.sref (Sh.agg [Sh.one, Sh.one, Sh.one, Sh.one, Sh.agg [Sh.one, Sh.one]]) 0 m [] 0 k)], [{ sh := Sh.arr (Sh.agg [Sh.one, Sh.one, Sh.one, Sh.one, Sh.agg [Sh.one, Sh.one]]) 0, dyn := true, frz := false, v := AV.dat (D.arr (Sh.agg [Sh.one, Sh.one, Sh.one, Sh.one, Sh.agg [Sh.one, Sh.one]]) out) }]))) (.leaf (.inl ((IntKind.wrap IntKind.i64 (j + (1 : Int))), (m), (k), (List.set out ((0 : Nat) + Int.toNat (D.getI (nthD is (Int.toNat j)))) (D.agg [D.bool (D.getB (nthD (D.getL (nthD ls (Int.toNat (D.getI (nthD is (Int.toNat j)))))) 0)), D.str (D.getS (nthD (D.getL (nthD ls (Int.toNat (D.getI (nthD is (Int.toNat j)))))) 1)), D.int IntKind.i64 (1 : Int), D.int IntKind.i64 w, D.agg [D.int IntKind.i64 (0 : Int), D.int IntKind.i64 (0 : Int)]]))))))
theorem pf2_round (lp : Loops) (ls is : List D) (w n : Int) (j : Int) (m k : Nat) (out : List D) (K : Kt) : oneRound (envOf tab SpF [] lp []) Try.f23 0 (1) (mkF 49 [(0, .dat (.slc (.agg [.one, .one, .one, .one, .agg [.one, .one]]) ls)), (2, .dat (.int .i64 w)), (8, .sref (.agg [.one, .one, .one, .one, .agg [.one, .one]]) 0 m [] 0 k), (31, .dat (.slc .one is)), (32, .dat (.int .i64 n)), (33, .dat (.int .i64 j))]) ([mkDyn (.agg [.one, .one, .one, .one, .agg [.one, .one]]) out]) K =
  (bif decide (j < n) then 
   (bif decide ((0 : Int) ≤ j) then 
    (bif decide (Int.toNat j < List.length is) then 
     (bif okE (Ek.int IntKind.i64) (nthD is (Int.toNat j)) then 
      (bif decide ((0 : Int) ≤ D.getI (nthD is (Int.toNat j))) then 
       (bif decide (Int.toNat (D.getI (nthD is (Int.toNat j))) < List.length ls) then 
        (bif okE (Ek.agg [Ek.bool, Ek.str, Ek.int IntKind.i64, Ek.int IntKind.i64, Ek.agg [Ek.int IntKind.i64, Ek.int IntKind.i64]]) (nthD ls (Int.toNat (D.getI (nthD is (Int.toNat j))))) then 
         (bif toi_pre w (0 : Int) (0 : Int) then 
          (bif decide ((0 : Int) ≤ D.getI (nthD is (Int.toNat j))) then 
           (bif decide (D.getI (nthD is (Int.toNat j)) < (↑k : Int)) then 
            (bif Nat.beq (List.length out) m && true && true then 
             (bif decide ((0 : Nat) + Int.toNat (D.getI (nthD is (Int.toNat j))) < List.length out) then 
              (bif okS (Sh.agg [Sh.one, Sh.one, Sh.one, Sh.one, Sh.agg [Sh.one, Sh.one]]) (nthD out ((0 : Nat) + Int.toNat (D.getI (nthD is (Int.toNat j))))) then 
               (bif Sh.eqb (Sh.agg [D.shape (nthD (D.getL (nthD out ((0 : Nat) + Int.toNat (D.getI (nthD is (Int.toNat j)))))) 0), D.shape (nthD (D.getL (nthD out ((0 : Nat) + Int.toNat (D.getI (nthD is (Int.toNat j)))))) 1), D.shape (nthD (D.getL (nthD out ((0 : Nat) + Int.toNat (D.getI (nthD is (Int.toNat j)))))) 2), D.shape (nthD (D.getL (nthD out ((0 : Nat) + Int.toNat (D.getI (nthD is (Int.toNat j)))))) 3), Sh.agg [D.shape (nthD (D.getL (nthD (D.getL (nthD out ((0 : Nat) + Int.toNat (D.getI (nthD is (Int.toNat j)))))) 4)) 0), D.shape (nthD (D.getL (nthD (D.getL (nthD out ((0 : Nat) + Int.toNat (D.getI (nthD is (Int.toNat j)))))) 4)) 1)]]) (Sh.agg [Sh.one, Sh.one, Sh.one, Sh.one, Sh.agg [Sh.one, Sh.one]]) then K (Exit.normal) (mkF 49 [(0, AV.dat (D.slc (Sh.agg [Sh.one, Sh.one, Sh.one, Sh.one, Sh.agg [Sh.one, Sh.one]]) ls)), (2, AV.dat (D.int IntKind.i64 w)), (8, AV.sref (Sh.agg [Sh.one, Sh.one, Sh.one, Sh.one, Sh.agg [Sh.one, Sh.one]]) 0 m [] 0 k), (31, AV.dat (D.slc Sh.one is)), (32, AV.dat (D.int IntKind.i64 n)), (33, AV.dat (D.int IntKind.i64 (IntKind.wrap IntKind.i64 (j + (1 : Int))))), (34, AV.dat (D.bool (decide (j < n)))), (47, AV.dat (D.int IntKind.i64 (IntKind.wrap IntKind.i64 (j + (1 : Int)))))]) ([{ sh := Sh.arr (Sh.agg [Sh.one, Sh.one, Sh.one, Sh.one, Sh.agg [Sh.one, Sh.one]]) 0, dyn := true, frz := false, v := AV.dat (D.arr (Sh.agg [Sh.one, Sh.one, Sh.one, Sh.one, Sh.agg [Sh.one, Sh.one]]) (List.set out ((0 : Nat) + Int.toNat (D.getI (nthD is (Int.toNat j)))) (D.agg [D.bool (D.getB (nthD (D.getL (nthD ls (Int.toNat (D.getI (nthD is (Int.toNat j)))))) 0)), D.str (D.getS (nthD (D.getL (nthD ls (Int.toNat (D.getI (nthD is (Int.toNat j)))))) 1)), D.int IntKind.i64 (1 : Int), D.int IntKind.i64 w, D.agg [D.int IntKind.i64 (0 : Int), D.int IntKind.i64 (0 : Int)]]))) }]) else none) else none) else none) else none) else none) else none) else none) else none) else none) else none) else none) else none) else none) else K (Exit.exit 0) (mkF 49 [(8, AV.sref (Sh.agg [Sh.one, Sh.one, Sh.one, Sh.one, Sh.agg [Sh.one, Sh.one]]) 0 m [] 0 k)]) ([{ sh := Sh.arr (Sh.agg [Sh.one, Sh.one, Sh.one, Sh.one, Sh.agg [Sh.one, Sh.one]]) 0, dyn := true, frz := false, v := AV.dat (D.arr (Sh.agg [Sh.one, Sh.one, Sh.one, Sh.one, Sh.agg [Sh.one, Sh.one]]) out) }])) := by kernel_rfl
theorem pf2_hr (lp : Loops) (ls is : List D) (w n : Int) : ∀ (sA : (Int × Nat × Nat × List D)) (K : Kt) (N : (Int × Nat × Nat × List D) → Option Res), (∀ sB fr' σ', cleanF (liveAt Try.f23 0) 0 fr' = pf2_fr ls is w n sB → trim (1) (pf2_fr ls is w n sB) σ' = pf2_st ls is w n sB → K .normal fr' σ' = N sB) →
    oneRound (envOf tab SpF [] lp []) Try.f23 0 (1) (pf2_fr ls is w n sA) (pf2_st ls is w n sA) K = (pf2_step ls is w n sA).k (LK K N) := by
  intro sA K N hN
  obtain ⟨j, m, k, out⟩ := sA
  refine (pf2_round lp ls is w n j m k out K).trans ?_
  show _ = T.k ((
  .chk (!decide (j < n) || decide ((0 : Int) ≤ j) && (decide (Int.toNat j < List.length is) && (okE (Ek.int IntKind.i64) (nthD is (Int.toNat j)) && (decide ((0 : Int) ≤ D.getI (nthD is (Int.toNat j))) && (decide (Int.toNat (D.getI (nthD is (Int.toNat j))) < List.length ls) && (okE (Ek.agg [Ek.bool, Ek.str, Ek.int IntKind.i64, Ek.int IntKind.i64, Ek.agg [Ek.int IntKind.i64, Ek.int IntKind.i64]]) (nthD ls (Int.toNat (D.getI (nthD is (Int.toNat j))))) && (toi_pre w (0 : Int) (0 : Int) && (decide (D.getI (nthD is (Int.toNat j)) < (↑k : Int)) && (Nat.beq (List.length out) m && (decide ((0 : Nat) + Int.toNat (D.getI (nthD is (Int.toNat j))) < List.length out) && (okS (Sh.agg [Sh.one, Sh.one, Sh.one, Sh.one, Sh.agg [Sh.one, Sh.one]]) (nthD out ((0 : Nat) + Int.toNat (D.getI (nthD is (Int.toNat j))))) && Sh.eqb (Sh.agg [D.shape (nthD (D.getL (nthD out ((0 : Nat) + Int.toNat (D.getI (nthD is (Int.toNat j)))))) 0), D.shape (nthD (D.getL (nthD out ((0 : Nat) + Int.toNat (D.getI (nthD is (Int.toNat j)))))) 1), D.shape (nthD (D.getL (nthD out ((0 : Nat) + Int.toNat (D.getI (nthD is (Int.toNat j)))))) 2), D.shape (nthD (D.getL (nthD out ((0 : Nat) + Int.toNat (D.getI (nthD is (Int.toNat j)))))) 3), Sh.agg [D.shape (nthD (D.getL (nthD (D.getL (nthD out ((0 : Nat) + Int.toNat (D.getI (nthD is (Int.toNat j)))))) 4)) 0), D.shape (nthD (D.getL (nthD (D.getL (nthD out ((0 : Nat) + Int.toNat (D.getI (nthD is (Int.toNat j)))))) 4)) 1)]]) (Sh.agg [Sh.one, Sh.one, Sh.one, Sh.one, Sh.agg [Sh.one, Sh.one]])))))))))))) (
   .br (!decide (j < n)) (.leaf (.inr ((some 0), mkF 49 [(8, AV.sref (Sh.agg [Sh.one, Sh.one, Sh.one, Sh.one, Sh.agg [Sh.one, Sh.one]]) 0 m [] 0 k)], [{ sh := Sh.arr (Sh.agg [Sh.one, Sh.one, Sh.one, Sh.one, Sh.agg [Sh.one, Sh.one]]) 0, dyn := true, frz := false, v := AV.dat (D.arr (Sh.agg [Sh.one, Sh.one, Sh.one, Sh.one, Sh.agg [Sh.one, Sh.one]]) out) }]))) (.leaf (.inl ((IntKind.wrap IntKind.i64 (j + (1 : Int))), (m), (k), (List.set out ((0 : Nat) + Int.toNat (D.getI (nthD is (Int.toNat j)))) (D.agg [D.bool (D.getB (nthD (D.getL (nthD ls (Int.toNat (D.getI (nthD is (Int.toNat j)))))) 0)), D.str (D.getS (nthD (D.getL (nthD ls (Int.toNat (D.getI (nthD is (Int.toNat j)))))) 1)), D.int IntKind.i64 (1 : Int), D.int IntKind.i64 w, D.agg [D.int IntKind.i64 (0 : Int), D.int IntKind.i64 (0 : Int)]]))))))) : T ((Int × Nat × Nat × List D) ⊕ LOut)) (LK K N)
  generalize (Sh.eqb (Sh.agg [D.shape (nthD (D.getL (nthD out ((0 : Nat) + Int.toNat (D.getI (nthD is (Int.toNat j)))))) 0), D.shape (nthD (D.getL (nthD out ((0 : Nat) + Int.toNat (D.getI (nthD is (Int.toNat j)))))) 1), D.shape (nthD (D.getL (nthD out ((0 : Nat) + Int.toNat (D.getI (nthD is (Int.toNat j)))))) 2), D.shape (nthD (D.getL (nthD out ((0 : Nat) + Int.toNat (D.getI (nthD is (Int.toNat j)))))) 3), Sh.agg [D.shape (nthD (D.getL (nthD (D.getL (nthD out ((0 : Nat) + Int.toNat (D.getI (nthD is (Int.toNat j)))))) 4)) 0), D.shape (nthD (D.getL (nthD (D.getL (nthD out ((0 : Nat) + Int.toNat (D.getI (nthD is (Int.toNat j)))))) 4)) 1)]]) (Sh.agg [Sh.one, Sh.one, Sh.one, Sh.one, Sh.agg [Sh.one, Sh.one]])) = z0
  generalize (decide ((0 : Nat) + Int.toNat (D.getI (nthD is (Int.toNat j))) < List.length out)) = z1
  generalize (okS (Sh.agg [Sh.one, Sh.one, Sh.one, Sh.one, Sh.agg [Sh.one, Sh.one]]) (nthD out ((0 : Nat) + Int.toNat (D.getI (nthD is (Int.toNat j)))))) = z2
  generalize (okE (Ek.agg [Ek.bool, Ek.str, Ek.int IntKind.i64, Ek.int IntKind.i64, Ek.agg [Ek.int IntKind.i64, Ek.int IntKind.i64]]) (nthD ls (Int.toNat (D.getI (nthD is (Int.toNat j)))))) = z3
  generalize (decide ((0 : Int) ≤ D.getI (nthD is (Int.toNat j)))) = z4
  generalize (decide (D.getI (nthD is (Int.toNat j)) < (↑k : Int))) = z5
  generalize (decide (Int.toNat (D.getI (nthD is (Int.toNat j))) < List.length ls)) = z6
  generalize (decide ((0 : Int) ≤ j)) = z7
  generalize (decide (Int.toNat j < List.length is)) = z8
  generalize (toi_pre w (0 : Int) (0 : Int)) = z9
  generalize (decide (j < n)) = z10
  generalize (okE (Ek.int IntKind.i64) (nthD is (Int.toNat j))) = z11
  generalize (Nat.beq (List.length out) m) = z12
  cases z10 with
  | true =>
   cases z7 with
   | true =>
    cases z8 with
    | true =>
     cases z11 with
     | true =>
      cases z4 with
      | true =>
       cases z6 with
       | true =>
        cases z3 with
        | true =>
         cases z9 with
         | true =>
          cases z5 with
          | true =>
           cases z12 with
           | true =>
            cases z1 with
            | true =>
             cases z2 with
             | true =>
              cases z0 with
              | true =>
               exact hN _ _ _ (by kernel_rfl) (by kernel_rfl)
              | false =>
               rfl
             | false =>
              rfl
            | false =>
             rfl
           | false =>
            rfl
          | false =>
           rfl
         | false =>
          rfl
        | false =>
         rfl
       | false =>
        rfl
      | false =>
       rfl
     | false =>
      rfl
    | false =>
     rfl
   | false =>
    rfl
  | false =>
   rfl
theorem pf2_enter (ls is : List D) (w n : Int) (j : Int) (m k : Nat) (out : List D) (fr : Frame') (hl : Nat.beq fr.length 49 = true) (g0 : fr.getD 0 .undef = AV.dat (D.slc (Sh.agg [Sh.one, Sh.one, Sh.one, Sh.one, Sh.agg [Sh.one, Sh.one]]) ls)) (g2 : fr.getD 2 .undef = AV.dat (D.int IntKind.i64 w)) (g8 : fr.getD 8 .undef = AV.sref (Sh.agg [Sh.one, Sh.one, Sh.one, Sh.one, Sh.agg [Sh.one, Sh.one]]) 0 m [] 0 k) (g31 : fr.getD 31 .undef = AV.dat (D.slc Sh.one is)) (g32 : fr.getD 32 .undef = AV.dat (D.int IntKind.i64 n)) (g33 : fr.getD 33 .undef = AV.dat (D.int IntKind.i64 j)) : cleanF (liveAt Try.f23 0) 0 fr = pf2_fr ls is w n (j, m, k, out) := by
  have e : liveAt Try.f23 0 = [32, 31, 0, 2, 33, 8] := by kernel_rfl
  rw [clean_mk (Nat.eq_of_beq_eq_true hl), e]
  show mkF 49 [(32, fr.getD 32 .undef), (31, fr.getD 31 .undef), (0, fr.getD 0 .undef), (2, fr.getD 2 .undef), (33, fr.getD 33 .undef), (8, fr.getD 8 .undef)] = _
  rw [g32, g31, g0, g2, g33, g8]
  kernel_rfl

def frI (ls : List D) (w : Int) (i : Nat) : D := .agg [.bool (fU (nthD ls i)), .str (fS (nthD ls i)), .int .i64 1, .int .i64 w, .agg [.int .i64 0, .int .i64 0]]
def frS (ls : List D) (w : Int) (out : List D) (d : D) : List D := out.set (D.getI d).toNat (frI ls w (D.getI d).toNat)
def okPl (n : Nat) (is : List D) : Bool := is.all fun d => okE (.int .i64) d && (decide (0 ≤ D.getI d) && decide (D.getI d < (n : Int)))
theorem okEs_set {ls : List D} (h : okEs ls = true) (i : Nat) (u : Bool) (s : ByteArray) (k w a b : Int) : okEs (ls.set i (.agg [.bool u, .str s, .int .i64 k, .int .i64 w, .agg [.int .i64 a, .int .i64 b]])) = true := by
  obtain ⟨h1, h2⟩ := okEs_spec h
  unfold okEs
  rw [List.length_set, decide_eq_true h2, Bool.and_true, List.all_eq_true]
  intro d hd
  rcases List.mem_or_eq_of_mem_set hd with hd | rfl
  · exact List.all_eq_true.1 h1 d hd
  · rfl
theorem pf2_closed (ls is : List D) (w n : Int) (m k : Nat) (out : List D) (hc : (decide (n = (is.length : Int)) && okEs ls && D.eqbL out ls && Nat.beq m ls.length && Nat.beq k ls.length && okPl ls.length is && decide (is.length ≤ 1099511627776)) = true) :
    ∃ z, (iterT (pf2_step ls is w n) z (0, m, k, out)).run = T.run (.leaf (some 0, mkF 49 [(8, .sref (.agg [.one, .one, .one, .one, .agg [.one, .one]]) 0 m [] 0 k)], [mkDyn (.agg [.one, .one, .one, .one, .agg [.one, .one]]) (is.foldl (frS ls w) ls)])) := by
  simp only [Bool.and_eq_true, decide_eq_true_eq] at hc
  obtain ⟨⟨⟨⟨⟨⟨rfl, he⟩, ho⟩, hm⟩, hk⟩, hp⟩, hi⟩ := hc
  obtain rfl := eqbL_iff.1 ho
  obtain rfl := Nat.eq_of_beq_eq_true hm
  obtain rfl := Nat.eq_of_beq_eq_true hk
  obtain ⟨h1, h2⟩ := okEs_spec he
  have key := iter_fold (step := pf2_step out is w is.length) (ls := is) (S := Nat × Nat × List D) (f := fun s d => (s.1, s.2.1, frS out w s.2.2 d)) (o := fun s => (some 0, mkF 49 [(8, .sref (.agg [.one, .one, .one, .one, .agg [.one, .one]]) 0 s.1 [] 0 s.2.1)], [mkDyn (.agg [.one, .one, .one, .one, .agg [.one, .one]]) s.2.2]))
    (fun _ s => s.1 = out.length ∧ s.2.1 = out.length ∧ s.2.2.length = out.length ∧ okEs s.2.2 = true) (fun i s hi hs => ?_) (fun s hs => ?_) (out.length, out.length, out) ⟨rfl, rfl, rfl, he⟩
  · have e : ∀ (l : List D) (x : List D), l.foldl (fun (s : Nat × Nat × List D) d => (s.1, s.2.1, frS out w s.2.2 d)) (out.length, out.length, x) = (out.length, out.length, l.foldl (frS out w) x) := by
      intro l
      induction l with
      | nil => intro x; rfl
      | cons d l ih => intro x; exact ih _
    rw [e] at key
    exact key
  · obtain ⟨s1, s2, o2⟩ := s
    obtain ⟨rfl, rfl, g1, g2⟩ := hs
    simp only at g1 g2 ⊢
    have hq := List.all_eq_true.1 hp _ (nthD_mem hi)
    simp only [Bool.and_eq_true, decide_eq_true_eq] at hq
    obtain ⟨q1, q2, q3⟩ := hq
    obtain ⟨j, hj⟩ : ∃ j : Nat, D.getI (nthD is i) = (j : Int) := ⟨(D.getI (nthD is i)).toNat, by omega⟩
    have hjl : j < out.length := by omega
    have hjo : j < o2.length := by omega
    obtain ⟨u', s', k', w', a', b', hform⟩ := ekI_form (allE_nth (okEs_spec g2).1 hjo)
    have e1 : okS (.agg [.one, .one, .one, .one, .agg [.one, .one]]) (nthD o2 j) = true := by rw [hform]; rfl
    have e2 : Sh.eqb (.agg [D.shape (nthD (D.getL (nthD o2 j)) 0), D.shape (nthD (D.getL (nthD o2 j)) 1), D.shape (nthD (D.getL (nthD o2 j)) 2), D.shape (nthD (D.getL (nthD o2 j)) 3), .agg [D.shape (nthD (D.getL (nthD (D.getL (nthD o2 j)) 4)) 0), D.shape (nthD (D.getL (nthD (D.getL (nthD o2 j)) 4)) 1)]]) (.agg [.one, .one, .one, .one, .agg [.one, .one]]) = true := by rw [hform]; rfl
    have e3 : toi_pre w 0 0 = true := by unfold toi_pre; rw [D.eqb_self, D.eqb_self]; rfl
    refine ⟨?_, by trivial, by trivial, by unfold frS; rw [List.length_set]; exact g1, by unfold frS frI; exact okEs_set g2 _ _ _ _ _ _ _⟩
    unfold pf2_step frS
    simp only [decide_eq_true (show (i : Int) < (is.length : Int) by omega), decide_eq_true (show (0 : Int) ≤ (i : Int) by omega), decide_eq_true hi, Int.toNat_natCast, q1, hj, decide_eq_true (show (0 : Int) ≤ (j : Int) by omega), decide_eq_true hjl, allE_nth h1 hjl, e1, e2, e3, g1, beq_self, Nat.zero_add, decide_eq_true (show (j : Int) < (out.length : Int) by omega), wrap_succ (show i < 2 ^ 62 by omega), Bool.not_true, Bool.false_or, Bool.and_true, T.run_br, T.run_chk, T.run_leaf, cond_true, cond_false]
    rfl
  · obtain ⟨s1, s2, o2⟩ := s
    unfold pf2_step
    simp only [decide_eq_false (show ¬ (is.length : Int) < (is.length : Int) by omega)]
    rfl
def L_pf2 : Frame' → Store → T (Exit × Frame' × Store) := fun fr σ => match fr.getD 0 .undef, fr.getD 2 .undef, fr.getD 8 .undef, fr.getD 31 .undef, fr.getD 32 .undef, fr.getD 33 .undef, σ with
  | AV.dat (D.slc (Sh.agg [Sh.one, Sh.one, Sh.one, Sh.one, Sh.agg [Sh.one, Sh.one]]) ls), AV.dat (D.int IntKind.i64 w), AV.sref (Sh.agg [Sh.one, Sh.one, Sh.one, Sh.one, Sh.agg [Sh.one, Sh.one]]) 0 m [] 0 k, AV.dat (D.slc Sh.one is), AV.dat (D.int IntKind.i64 n), AV.dat (D.int IntKind.i64 0), [{ sh := Sh.arr (Sh.agg [Sh.one, Sh.one, Sh.one, Sh.one, Sh.agg [Sh.one, Sh.one]]) 0, dyn := true, frz := false, v := AV.dat (D.arr (Sh.agg [Sh.one, Sh.one, Sh.one, Sh.one, Sh.agg [Sh.one, Sh.one]]) out) }] => .chk (Nat.beq fr.length 49 && (decide (n = (is.length : Int)) && okEs ls && D.eqbL out ls && Nat.beq m ls.length && Nat.beq k ls.length && okPl ls.length is && decide (is.length ≤ 1099511627776))) (T.bind (.leaf (some 0, mkF 49 [(8, .sref (.agg [.one, .one, .one, .one, .agg [.one, .one]]) 0 m [] 0 k)], [mkDyn (.agg [.one, .one, .one, .one, .agg [.one, .one]]) (is.foldl (frS ls w) ls)])) fun o => .leaf (outEx o.1, o.2.1, o.2.2))
  | _, _, _, _, _, _, _ => .fail
theorem pf2_sem (lp : Loops) : ∀ fr σ p, (L_pf2 fr σ).run = some p → ∀ (K : Kt) r, K p.1 p.2.1 p.2.2 = some r → ∃ n, loopRun (envOf tab SpF [] lp []) Try.f23 0 σ.length n (cleanF (liveAt Try.f23 0) 0 fr) σ K = some r := by
  intro fr σ p h K r hK
  unfold L_pf2 at h
  split at h
  · rename_i ls w m k is n out g0 g2 g8 g31 g32 g33
    obtain ⟨hc, h'⟩ := T.chk_some h
    rw [Bool.and_eq_true] at hc
    obtain ⟨hl, hc⟩ := hc
    obtain ⟨o, ho, h'⟩ := T.bind_some h'
    have hp := T.leaf_some h'
    subst hp
    obtain ⟨nF, hn⟩ : ∃ nF, (iterT (pf2_step ls is w n) nF ((0, m, k, out))).run = T.run (.leaf (some 0, mkF 49 [(8, .sref (.agg [.one, .one, .one, .one, .agg [.one, .one]]) 0 m [] 0 k)], [mkDyn (.agg [.one, .one, .one, .one, .agg [.one, .one]]) (is.foldl (frS ls w) ls)])) := pf2_closed ls is w n m k out hc
    rw [ho] at hn
    refine ⟨nF, ?_⟩
    have he : cleanF (liveAt Try.f23 0) 0 fr = pf2_fr ls is w n ((0, m, k, out)) := pf2_enter ls is w n _ _ _ _ fr hl g0 g2 g8 g31 g32 g33
    refine (iter_ok (base := 1) (pf2_hr lp ls is w n) K nF ((0, m, k, out)) _ _ (by rw [clean_clean]; exact he) (by kernel_rfl)).trans ?_
    rw [T.k_run hn]
    exact hK
  · simp [T.run_fail] at h
theorem pf2_loopOk (lp : Loops) (hk : Loops.get lp 5 = some L_pf2) : LoopOk (envOf tab SpF [] lp []) (loopAt Try.f23 0).1 (loopAt Try.f23 0).2 := loop_ok (L := L_pf2) hk (pf2_sem lp)

def free_v0 (t : Int) (w : Int) : Int := bif may_v0 (3 : Int) t (0 : Int) (0 : Int) then bif may_v0 (1 : Int) w (0 : Int) (0 : Int) then (0 : Int) else (1 : Int) else (1 : Int)
def free_1v0 (d : D) (ds : List D) (t : Int) (w : Int) : List D := bif right_v0 (d :: ds) then bif may_v0 (3 : Int) t (0 : Int) (0 : Int) then bif may_v0 (1 : Int) w (0 : Int) (0 : Int) then seg (List.foldl (frS (d :: ds) w) (d :: ds) (seg (slTo (d :: ds) (3 : Int) t (0 : Int) (0 : Int)) 0 (List.length (slTo (d :: ds) (3 : Int) t (0 : Int) (0 : Int))))) 0 (List.length (d :: ds)) else [] else [] else []
def free_1v1 (d : D) (ds : List D) (t : Int) (w : Int) : Int := bif right_v0 (d :: ds) then bif may_v0 (3 : Int) t (0 : Int) (0 : Int) then bif may_v0 (1 : Int) w (0 : Int) (0 : Int) then (0 : Int) else (1 : Int) else (1 : Int) else (1 : Int)
def free_1pre (d : D) (ds : List D) (t : Int) (w : Int) : Bool := iw_okL (d :: ds) && (!right_v0 (d :: ds) || (!may_v0 (3 : Int) t (0 : Int) (0 : Int) || (!may_v0 (1 : Int) w (0 : Int) (0 : Int) || fits (Sh.agg [Sh.one, Sh.one, Sh.one, Sh.one, Sh.agg [Sh.one, Sh.one]]) (d :: ds) && decide (List.length (d :: ds) * 56 ≤ 35184372088832) && (slots_pre (d :: ds) (3 : Int) t (0 : Int) (0 : Int) && (decide ((↑(List.length (seg (slTo (d :: ds) (3 : Int) t (0 : Int) (0 : Int)) 0 (List.length (slTo (d :: ds) (3 : Int) t (0 : Int) (0 : Int))))) : Int) = (↑(List.length (seg (slTo (d :: ds) (3 : Int) t (0 : Int) (0 : Int)) 0 (List.length (slTo (d :: ds) (3 : Int) t (0 : Int) (0 : Int))))) : Int)) && okEs (d :: ds) && D.eqbL (d :: ds) (d :: ds) && Nat.beq (List.length (d :: ds)) (List.length (d :: ds)) && Nat.beq (List.length (d :: ds)) (List.length (d :: ds)) && okPl (List.length (d :: ds)) (seg (slTo (d :: ds) (3 : Int) t (0 : Int) (0 : Int)) 0 (List.length (slTo (d :: ds) (3 : Int) t (0 : Int) (0 : Int)))) && decide (List.length (seg (slTo (d :: ds) (3 : Int) t (0 : Int) (0 : Int)) 0 (List.length (slTo (d :: ds) (3 : Int) t (0 : Int) (0 : Int)))) ≤ 1099511627776) && Nat.beq (List.length (List.foldl (frS (d :: ds) w) (d :: ds) (seg (slTo (d :: ds) (3 : Int) t (0 : Int) (0 : Int)) 0 (List.length (slTo (d :: ds) (3 : Int) t (0 : Int) (0 : Int)))))) (List.length (d :: ds)))))))
def C_free : FunT := fun args σ => match args, σ with
  | [AV.dat (D.slc (Sh.agg [Sh.one, Sh.one, Sh.one, Sh.one, Sh.agg [Sh.one, Sh.one]]) []), AV.dat (D.int IntKind.i64 t), AV.dat (D.int IntKind.i64 w)], [] => .leaf ([AV.dat (D.slc (Sh.agg [Sh.one, Sh.one, Sh.one, Sh.one, Sh.agg [Sh.one, Sh.one]]) []), AV.dat (D.int IntKind.i64 (free_v0 t w))], [])
  | [AV.dat (D.slc (Sh.agg [Sh.one, Sh.one, Sh.one, Sh.one, Sh.agg [Sh.one, Sh.one]]) (d :: ds)), AV.dat (D.int IntKind.i64 t), AV.dat (D.int IntKind.i64 w)], [] => .chk ((free_1pre d ds t w)) (.leaf ([AV.dat (D.slc (Sh.agg [Sh.one, Sh.one, Sh.one, Sh.one, Sh.agg [Sh.one, Sh.one]]) (free_1v0 d ds t w)), AV.dat (D.int IntKind.i64 (free_1v1 d ds t w))], []))
  | _, _ => .fail
theorem free_raw0 (t w : Int) : runF (envOf tab SpF [] [(5, fun fr σ => T.or (L_pf0 fr σ) (L_pf2 fr σ))] []) true Try.f23 [.dat (.slc (.agg [.one, .one, .one, .one, .agg [.one, .one]]) []), .dat (.int .i64 t), .dat (.int .i64 w)] [] =
  (bif !may_v0 (3 : Int) t (0 : Int) (0 : Int) then some ([AV.dat (D.slc (Sh.agg [Sh.one, Sh.one, Sh.one, Sh.one, Sh.agg [Sh.one, Sh.one]]) []), AV.dat (D.int IntKind.i64 (1 : Int))], []) else 
   (bif !may_v0 (1 : Int) w (0 : Int) (0 : Int) then some ([AV.dat (D.slc (Sh.agg [Sh.one, Sh.one, Sh.one, Sh.one, Sh.agg [Sh.one, Sh.one]]) []), AV.dat (D.int IntKind.i64 (1 : Int))], []) else some ([AV.dat (D.slc (Sh.agg [Sh.one, Sh.one, Sh.one, Sh.one, Sh.agg [Sh.one, Sh.one]]) []), AV.dat (D.int IntKind.i64 (0 : Int))], []))) := by kernel_rfl
theorem free_case0 (t w : Int) : runF (envOf tab SpF [] [(5, fun fr σ => T.or (L_pf0 fr σ) (L_pf2 fr σ))] []) true Try.f23 [.dat (.slc (.agg [.one, .one, .one, .one, .agg [.one, .one]]) []), .dat (.int .i64 t), .dat (.int .i64 w)] [] = FunT.run C_free [.dat (.slc (.agg [.one, .one, .one, .one, .agg [.one, .one]]) []), .dat (.int .i64 t), .dat (.int .i64 w)] [] := (free_raw0 t w).trans (by
  show _ = some (([AV.dat (D.slc (Sh.agg [Sh.one, Sh.one, Sh.one, Sh.one, Sh.agg [Sh.one, Sh.one]]) []), AV.dat (D.int IntKind.i64 (bif may_v0 (3 : Int) t (0 : Int) (0 : Int) then bif may_v0 (1 : Int) w (0 : Int) (0 : Int) then (0 : Int) else (1 : Int) else (1 : Int)))], []) : Res)
  generalize (may_v0 (1 : Int) w (0 : Int) (0 : Int)) = z0
  generalize (may_v0 (3 : Int) t (0 : Int) (0 : Int)) = z1
  cases z1 with
  | true =>
   cases z0 with
   | true =>
    rfl
   | false =>
    rfl
  | false =>
   rfl
  )
theorem free_raw1 (d : D) (ds : List D) (t w : Int) : runF (envOf tab SpF [] [(5, fun fr σ => T.or (L_pf0 fr σ) (L_pf2 fr σ))] []) true Try.f23 [.dat (.slc (.agg [.one, .one, .one, .one, .agg [.one, .one]]) (d :: ds)), .dat (.int .i64 t), .dat (.int .i64 w)] [] =
  (bif iw_okL (d :: ds) then 
   (bif !right_v0 (d :: ds) then some ([AV.dat (D.slc (Sh.agg [Sh.one, Sh.one, Sh.one, Sh.one, Sh.agg [Sh.one, Sh.one]]) []), AV.dat (D.int IntKind.i64 (1 : Int))], []) else 
    (bif !may_v0 (3 : Int) t (0 : Int) (0 : Int) then some ([AV.dat (D.slc (Sh.agg [Sh.one, Sh.one, Sh.one, Sh.one, Sh.agg [Sh.one, Sh.one]]) []), AV.dat (D.int IntKind.i64 (1 : Int))], []) else 
     (bif !may_v0 (1 : Int) w (0 : Int) (0 : Int) then some ([AV.dat (D.slc (Sh.agg [Sh.one, Sh.one, Sh.one, Sh.one, Sh.agg [Sh.one, Sh.one]]) []), AV.dat (D.int IntKind.i64 (1 : Int))], []) else 
      (bif fits (Sh.agg [Sh.one, Sh.one, Sh.one, Sh.one, Sh.agg [Sh.one, Sh.one]]) (d :: ds) && decide (List.length (d :: ds) * 56 ≤ 35184372088832) then 
       (bif slots_pre (d :: ds) (3 : Int) t (0 : Int) (0 : Int) then 
        (bif decide ((↑(List.length (seg (slTo (d :: ds) (3 : Int) t (0 : Int) (0 : Int)) 0 (List.length (slTo (d :: ds) (3 : Int) t (0 : Int) (0 : Int))))) : Int) = (↑(List.length (seg (slTo (d :: ds) (3 : Int) t (0 : Int) (0 : Int)) 0 (List.length (slTo (d :: ds) (3 : Int) t (0 : Int) (0 : Int))))) : Int)) && okEs (d :: ds) && D.eqbL (d :: ds) (d :: ds) && Nat.beq (List.length (d :: ds)) (List.length (d :: ds)) && Nat.beq (List.length (d :: ds)) (List.length (d :: ds)) && okPl (List.length (d :: ds)) (seg (slTo (d :: ds) (3 : Int) t (0 : Int) (0 : Int)) 0 (List.length (slTo (d :: ds) (3 : Int) t (0 : Int) (0 : Int)))) && decide (List.length (seg (slTo (d :: ds) (3 : Int) t (0 : Int) (0 : Int)) 0 (List.length (slTo (d :: ds) (3 : Int) t (0 : Int) (0 : Int)))) ≤ 1099511627776) then 
         (bif Nat.beq (List.length (List.foldl (frS (d :: ds) w) (d :: ds) (seg (slTo (d :: ds) (3 : Int) t (0 : Int) (0 : Int)) 0 (List.length (slTo (d :: ds) (3 : Int) t (0 : Int) (0 : Int)))))) (List.length (d :: ds)) then some ([AV.dat (D.slc (Sh.agg [Sh.one, Sh.one, Sh.one, Sh.one, Sh.agg [Sh.one, Sh.one]]) (seg (List.foldl (frS (d :: ds) w) (d :: ds) (seg (slTo (d :: ds) (3 : Int) t (0 : Int) (0 : Int)) 0 (List.length (slTo (d :: ds) (3 : Int) t (0 : Int) (0 : Int))))) 0 (List.length (d :: ds)))), AV.dat (D.int IntKind.i64 (0 : Int))], []) else none) else none) else none) else none)))) else none) := by kernel_rfl
theorem free_case1 (d : D) (ds : List D) (t w : Int) : runF (envOf tab SpF [] [(5, fun fr σ => T.or (L_pf0 fr σ) (L_pf2 fr σ))] []) true Try.f23 [.dat (.slc (.agg [.one, .one, .one, .one, .agg [.one, .one]]) (d :: ds)), .dat (.int .i64 t), .dat (.int .i64 w)] [] = FunT.run C_free [.dat (.slc (.agg [.one, .one, .one, .one, .agg [.one, .one]]) (d :: ds)), .dat (.int .i64 t), .dat (.int .i64 w)] [] := (free_raw1 d ds t w).trans (by
  show _ = (cond (iw_okL (d :: ds) && (!right_v0 (d :: ds) || (!may_v0 (3 : Int) t (0 : Int) (0 : Int) || (!may_v0 (1 : Int) w (0 : Int) (0 : Int) || fits (Sh.agg [Sh.one, Sh.one, Sh.one, Sh.one, Sh.agg [Sh.one, Sh.one]]) (d :: ds) && decide (List.length (d :: ds) * 56 ≤ 35184372088832) && (slots_pre (d :: ds) (3 : Int) t (0 : Int) (0 : Int) && (decide ((↑(List.length (seg (slTo (d :: ds) (3 : Int) t (0 : Int) (0 : Int)) 0 (List.length (slTo (d :: ds) (3 : Int) t (0 : Int) (0 : Int))))) : Int) = (↑(List.length (seg (slTo (d :: ds) (3 : Int) t (0 : Int) (0 : Int)) 0 (List.length (slTo (d :: ds) (3 : Int) t (0 : Int) (0 : Int))))) : Int)) && okEs (d :: ds) && D.eqbL (d :: ds) (d :: ds) && Nat.beq (List.length (d :: ds)) (List.length (d :: ds)) && Nat.beq (List.length (d :: ds)) (List.length (d :: ds)) && okPl (List.length (d :: ds)) (seg (slTo (d :: ds) (3 : Int) t (0 : Int) (0 : Int)) 0 (List.length (slTo (d :: ds) (3 : Int) t (0 : Int) (0 : Int)))) && decide (List.length (seg (slTo (d :: ds) (3 : Int) t (0 : Int) (0 : Int)) 0 (List.length (slTo (d :: ds) (3 : Int) t (0 : Int) (0 : Int)))) ≤ 1099511627776) && Nat.beq (List.length (List.foldl (frS (d :: ds) w) (d :: ds) (seg (slTo (d :: ds) (3 : Int) t (0 : Int) (0 : Int)) 0 (List.length (slTo (d :: ds) (3 : Int) t (0 : Int) (0 : Int)))))) (List.length (d :: ds)))))))) (some (([AV.dat (D.slc (Sh.agg [Sh.one, Sh.one, Sh.one, Sh.one, Sh.agg [Sh.one, Sh.one]]) (bif right_v0 (d :: ds) then bif may_v0 (3 : Int) t (0 : Int) (0 : Int) then bif may_v0 (1 : Int) w (0 : Int) (0 : Int) then seg (List.foldl (frS (d :: ds) w) (d :: ds) (seg (slTo (d :: ds) (3 : Int) t (0 : Int) (0 : Int)) 0 (List.length (slTo (d :: ds) (3 : Int) t (0 : Int) (0 : Int))))) 0 (List.length (d :: ds)) else [] else [] else [])), AV.dat (D.int IntKind.i64 (bif right_v0 (d :: ds) then bif may_v0 (3 : Int) t (0 : Int) (0 : Int) then bif may_v0 (1 : Int) w (0 : Int) (0 : Int) then (0 : Int) else (1 : Int) else (1 : Int) else (1 : Int)))], []) : Res)) none)
  generalize (decide ((↑(List.length (seg (slTo (d :: ds) (3 : Int) t (0 : Int) (0 : Int)) 0 (List.length (slTo (d :: ds) (3 : Int) t (0 : Int) (0 : Int))))) : Int) = (↑(List.length (seg (slTo (d :: ds) (3 : Int) t (0 : Int) (0 : Int)) 0 (List.length (slTo (d :: ds) (3 : Int) t (0 : Int) (0 : Int))))) : Int)) && okEs (d :: ds) && D.eqbL (d :: ds) (d :: ds) && Nat.beq (List.length (d :: ds)) (List.length (d :: ds)) && Nat.beq (List.length (d :: ds)) (List.length (d :: ds)) && okPl (List.length (d :: ds)) (seg (slTo (d :: ds) (3 : Int) t (0 : Int) (0 : Int)) 0 (List.length (slTo (d :: ds) (3 : Int) t (0 : Int) (0 : Int)))) && decide (List.length (seg (slTo (d :: ds) (3 : Int) t (0 : Int) (0 : Int)) 0 (List.length (slTo (d :: ds) (3 : Int) t (0 : Int) (0 : Int)))) ≤ 1099511627776)) = z0
  generalize (fits (Sh.agg [Sh.one, Sh.one, Sh.one, Sh.one, Sh.agg [Sh.one, Sh.one]]) (d :: ds) && decide (List.length (d :: ds) * 56 ≤ 35184372088832)) = z1
  generalize (Nat.beq (List.length (List.foldl (frS (d :: ds) w) (d :: ds) (seg (slTo (d :: ds) (3 : Int) t (0 : Int) (0 : Int)) 0 (List.length (slTo (d :: ds) (3 : Int) t (0 : Int) (0 : Int)))))) (List.length (d :: ds))) = z2
  generalize (slots_pre (d :: ds) (3 : Int) t (0 : Int) (0 : Int)) = z3
  generalize (may_v0 (1 : Int) w (0 : Int) (0 : Int)) = z4
  generalize (may_v0 (3 : Int) t (0 : Int) (0 : Int)) = z5
  generalize (right_v0 (d :: ds)) = z6
  generalize (iw_okL (d :: ds)) = z7
  cases z7 with
  | true =>
   cases z6 with
   | true =>
    cases z5 with
    | true =>
     cases z4 with
     | true =>
      cases z1 with
      | true =>
       cases z3 with
       | true =>
        cases z0 with
        | true =>
         cases z2 with
         | true =>
          rfl
         | false =>
          rfl
        | false =>
         rfl
       | false =>
        rfl
      | false =>
       rfl
     | false =>
      rfl
    | false =>
     rfl
   | false =>
    rfl
  | false =>
   rfl
  )
theorem cfree_ok : FunOk Try.prog 23 (FunT.run C_free) := by
  refine fun_ok (E := envOf tab SpF [] [(5, fun fr σ => T.or (L_pf0 fr σ) (L_pf2 fr σ))] []) (fz := true) (fn := Try.f23) (envOf_ok progOk SpF_ok) (by kernel_rfl) (by kernel_rfl) (loops_one (by kernel_rfl) (loop_ok (L := fun fr σ => T.or (L_pf0 fr σ) (L_pf2 fr σ)) rfl (fun fr σ p h => (T.or_run h).elim (fun h => pf0_sem _ fr σ p h) (fun h => pf2_sem _ fr σ p h)))) ?_
  intro args σ r h
  unfold C_free at h
  split at h
  · exact (free_case0 _ _).trans h
  · exact (free_case1 _ _ _ _).trans h
  · simp [T.run_fail] at h


end Go.Proofs.Ytnegedbjcjfndaa
