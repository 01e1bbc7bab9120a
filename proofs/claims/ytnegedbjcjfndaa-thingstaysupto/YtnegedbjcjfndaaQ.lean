/- Seat 16: ThingStays' deeds and loops. -/
import Derived.Test.YtnegedbjcjfndaaK
import Derived.Test.YtnegedbjcjfndaaAx28
namespace Go.Proofs.Ytnegedbjcjfndaa
open Go.AX
set_option maxRecDepth 100000

abbrev SpQ : Specs := [(10, C_mk), (14, C_scrap), (16, C_drop), (18, C_take), (20, C_pass), (22, C_hold), (23, C_fre)]
theorem SpQ_ok : SpecsOk Try.prog SpQ := .cons cmk_ok (.cons cscrap_ok (.cons cdrop_ok (.cons ctake_ok (.cons cpass_ok (.cons chold_ok (.cons cfre_ok (.nil _)))))))
def dod_v0 (ls : List D) (k : Int) (i : Int) (w : Int) (t : Int) (a : Int) (b : Int) (s : ByteArray) : List D := bif k == 0 then mk_v0 ls s w else bif k == 1 then scrap_v0 ls i w else bif k == 2 then mv_v0 ls i 1 w 0 0 2 0 a b else bif k == 3 then mv_v0 ls i 2 0 a b 1 w 0 0 else bif k == 4 then pass_v0 ls i w t else bif k == 5 then hold_v0 ls i w t else freV ls t w
def dod_v1 (ls : List D) (k : Int) (i : Int) (w : Int) (t : Int) (a : Int) (b : Int) (s : ByteArray) : Int := bif k == 0 then mk_v2 ls s w else bif k == 1 then scrap_v1 ls i w else bif k == 2 then mv_v1 ls i 1 w 0 0 2 0 a b else bif k == 3 then mv_v1 ls i 2 0 a b 1 w 0 0 else bif k == 4 then pass_v1 ls i w t else bif k == 5 then hold_v1 ls i w t else freE ls t w
def dod_pre (ls : List D) (k : Int) (i : Int) (w : Int) (t : Int) (a : Int) (b : Int) (s : ByteArray) : Bool := bif k == 0 then mk_pre ls s w else bif k == 1 then scrap_pre ls i w else bif k == 2 then drop_pre ls i w a b else bif k == 3 then mv_pre ls i 2 0 a b 1 w 0 0 else bif k == 4 then pass_pre ls i w t else bif k == 5 then hold_pre ls i w t else okIs ls && decide (List.length ls ≤ 1048576)
def C_dod : FunT := fun args σ => match args, σ with
  | [AV.dat (D.slc (Sh.agg [Sh.one, Sh.one, Sh.one, Sh.one, Sh.agg [Sh.one, Sh.one]]) ls), AV.dat (D.agg [D.int IntKind.i64 k, D.int IntKind.i64 i, D.int IntKind.i64 w, D.int IntKind.i64 t, D.agg [D.int IntKind.i64 a, D.int IntKind.i64 b], D.str s])], [] => .chk ((dod_pre ls k i w t a b s)) (.leaf ([AV.dat (D.slc (Sh.agg [Sh.one, Sh.one, Sh.one, Sh.one, Sh.agg [Sh.one, Sh.one]]) (dod_v0 ls k i w t a b s)), AV.dat (D.int IntKind.i64 (dod_v1 ls k i w t a b s))], []))
  | _, _ => .fail
theorem dod_raw0 (ls : List D) (k i w t a b : Int) (s : ByteArray) : runF (envOf tab SpQ [] [] []) true Try.f28 [.dat (.slc (.agg [.one, .one, .one, .one, .agg [.one, .one]]) ls), .dat (.agg [.int .i64 k, .int .i64 i, .int .i64 w, .int .i64 t, .agg [.int .i64 a, .int .i64 b], .str s])] [] =
  (bif k == 0 then 
   (bif mk_pre ls s w then some ([.dat (.slc (Sh.agg [Sh.one, Sh.one, Sh.one, Sh.one, Sh.agg [Sh.one, Sh.one]]) (mk_v0 ls s w)), .dat (.int .i64 (mk_v2 ls s w))], []) else none) else 
   (bif k == 1 then 
    (bif scrap_pre ls i w then some ([.dat (.slc (Sh.agg [Sh.one, Sh.one, Sh.one, Sh.one, Sh.agg [Sh.one, Sh.one]]) (scrap_v0 ls i w)), .dat (.int .i64 (scrap_v1 ls i w))], []) else none) else 
    (bif k == 2 then 
     (bif drop_pre ls i w a b then some ([.dat (.slc (Sh.agg [Sh.one, Sh.one, Sh.one, Sh.one, Sh.agg [Sh.one, Sh.one]]) (mv_v0 ls i 1 w 0 0 2 0 a b)), .dat (.int .i64 (mv_v1 ls i 1 w 0 0 2 0 a b))], []) else none) else 
     (bif k == 3 then 
      (bif mv_pre ls i 2 0 a b 1 w 0 0 then some ([.dat (.slc (Sh.agg [Sh.one, Sh.one, Sh.one, Sh.one, Sh.agg [Sh.one, Sh.one]]) (mv_v0 ls i 2 0 a b 1 w 0 0)), .dat (.int .i64 (mv_v1 ls i 2 0 a b 1 w 0 0))], []) else none) else 
      (bif k == 4 then 
       (bif pass_pre ls i w t then some ([.dat (.slc (Sh.agg [Sh.one, Sh.one, Sh.one, Sh.one, Sh.agg [Sh.one, Sh.one]]) (pass_v0 ls i w t)), .dat (.int .i64 (pass_v1 ls i w t))], []) else none) else 
       (bif k == 5 then 
        (bif hold_pre ls i w t then some ([.dat (.slc (Sh.agg [Sh.one, Sh.one, Sh.one, Sh.one, Sh.agg [Sh.one, Sh.one]]) (hold_v0 ls i w t)), .dat (.int .i64 (hold_v1 ls i w t))], []) else none) else 
        (bif okIs ls && decide (List.length ls ≤ 1048576) then some ([.dat (.slc (Sh.agg [Sh.one, Sh.one, Sh.one, Sh.one, Sh.agg [Sh.one, Sh.one]]) (freV ls t w)), .dat (.int .i64 (freE ls t w))], []) else none))))))) := by kernel_rfl
theorem dod_case0 (ls : List D) (k i w t a b : Int) (s : ByteArray) : runF (envOf tab SpQ [] [] []) true Try.f28 [.dat (.slc (.agg [.one, .one, .one, .one, .agg [.one, .one]]) ls), .dat (.agg [.int .i64 k, .int .i64 i, .int .i64 w, .int .i64 t, .agg [.int .i64 a, .int .i64 b], .str s])] [] = FunT.run C_dod [.dat (.slc (.agg [.one, .one, .one, .one, .agg [.one, .one]]) ls), .dat (.agg [.int .i64 k, .int .i64 i, .int .i64 w, .int .i64 t, .agg [.int .i64 a, .int .i64 b], .str s])] [] := (dod_raw0 ls k i w t a b s).trans (by
  show _ = (cond (bif k == 0 then mk_pre ls s w else bif k == 1 then scrap_pre ls i w else bif k == 2 then drop_pre ls i w a b else bif k == 3 then mv_pre ls i 2 0 a b 1 w 0 0 else bif k == 4 then pass_pre ls i w t else bif k == 5 then hold_pre ls i w t else okIs ls && decide (List.length ls ≤ 1048576)) (some (([.dat (.slc (Sh.agg [Sh.one, Sh.one, Sh.one, Sh.one, Sh.agg [Sh.one, Sh.one]]) (bif k == 0 then mk_v0 ls s w else bif k == 1 then scrap_v0 ls i w else bif k == 2 then mv_v0 ls i 1 w 0 0 2 0 a b else bif k == 3 then mv_v0 ls i 2 0 a b 1 w 0 0 else bif k == 4 then pass_v0 ls i w t else bif k == 5 then hold_v0 ls i w t else freV ls t w)), .dat (.int .i64 (bif k == 0 then mk_v2 ls s w else bif k == 1 then scrap_v1 ls i w else bif k == 2 then mv_v1 ls i 1 w 0 0 2 0 a b else bif k == 3 then mv_v1 ls i 2 0 a b 1 w 0 0 else bif k == 4 then pass_v1 ls i w t else bif k == 5 then hold_v1 ls i w t else freE ls t w))], []) : Res)) none)
  generalize (mv_pre ls i 2 0 a b 1 w 0 0) = z0
  generalize (okIs ls && decide (List.length ls ≤ 1048576)) = z1
  generalize (k == 0) = z2
  generalize (k == 4) = z3
  generalize (k == 1) = z4
  generalize (k == 3) = z5
  generalize (k == 2) = z6
  generalize (k == 5) = z7
  generalize (drop_pre ls i w a b) = z8
  generalize (pass_pre ls i w t) = z9
  generalize (hold_pre ls i w t) = z10
  generalize (scrap_pre ls i w) = z11
  generalize (mk_pre ls s w) = z12
  cases z2 with
  | true =>
   cases z12 with
   | true =>
    rfl
   | false =>
    rfl
  | false =>
   cases z4 with
   | true =>
    cases z11 with
    | true =>
     rfl
    | false =>
     rfl
   | false =>
    cases z6 with
    | true =>
     cases z8 with
     | true =>
      rfl
     | false =>
      rfl
    | false =>
     cases z5 with
     | true =>
      cases z0 with
      | true =>
       rfl
      | false =>
       rfl
     | false =>
      cases z3 with
      | true =>
       cases z9 with
       | true =>
        rfl
       | false =>
        rfl
      | false =>
       cases z7 with
       | true =>
        cases z10 with
        | true =>
         rfl
        | false =>
         rfl
       | false =>
        cases z1 with
        | true =>
         rfl
        | false =>
         rfl
  )
theorem cdod_ok : FunOk Try.prog 28 (FunT.run C_dod) := by
  refine fun_ok (E := envOf tab SpQ [] [] []) (fz := true) (fn := Try.f28) (envOf_ok progOk SpQ_ok) (by kernel_rfl) (by kernel_rfl) (loops_none (by kernel_rfl)) ?_
  intro args σ r h
  unfold C_dod at h
  split at h
  · exact (dod_case0 _ _ _ _ _ _ _ _).trans h
  · simp [T.run_fail] at h

def us_fr (ls : List D) : (Int × Int) → Frame' := fun ⟨i, n⟩ => mkF 19 [(0, .dat (.slc (.agg [.one, .one, .one, .one, .agg [.one, .one]]) ls)), (3, .dat (.int .i64 n)), (4, .dat (.int .i64 i))]
def us_st (_ls : List D) : (Int × Int) → Store := fun ⟨_, _⟩ => []
def us_step (ls : List D) : (Int × Int) → T ((Int × Int) ⊕ LOut) := fun ⟨i, n⟩ => 
  .chk (!decide (i < (↑(List.length ls) : Int)) || decide (0 ≤ i) && (decide (Int.toNat i < List.length ls) && okE (Ek.agg [Ek.bool, Ek.str, Ek.int IntKind.i64, Ek.int IntKind.i64, Ek.agg [Ek.int IntKind.i64, Ek.int IntKind.i64]]) (nthD ls (Int.toNat i)))) (
   .br (!decide (i < (↑(List.length ls) : Int))) (.leaf (.inr ((some 0), mkF 19 [(3, .dat (.int .i64 n))], []))) (.leaf (.inl ((IntKind.wrap IntKind.i64 (i + 1)), (bif D.getB (nthD (D.getL (nthD ls (Int.toNat i))) 0) then IntKind.wrap IntKind.i64 (n + 1) else n)))))
theorem us_round (lp : Loops) (ls : List D) (i n : Int) (K : Kt) : oneRound (envOf tab [] [] lp []) Try.f29 0 (0) (mkF 19 [(0, .dat (.slc (.agg [.one, .one, .one, .one, .agg [.one, .one]]) ls)), (3, .dat (.int .i64 n)), (4, .dat (.int .i64 i))]) ([]) K =
  (bif decide (i < (↑(List.length ls) : Int)) then 
   (bif decide (0 ≤ i) then 
    (bif decide (Int.toNat i < List.length ls) then 
     (bif okE (Ek.agg [Ek.bool, Ek.str, Ek.int IntKind.i64, Ek.int IntKind.i64, Ek.agg [Ek.int IntKind.i64, Ek.int IntKind.i64]]) (nthD ls (Int.toNat i)) then 
      (bif D.getB (nthD (D.getL (nthD ls (Int.toNat i))) 0) then K (Exit.normal) (mkF 19 [(0, .dat (.slc (Sh.agg [Sh.one, Sh.one, Sh.one, Sh.one, Sh.agg [Sh.one, Sh.one]]) ls)), (3, .dat (.int .i64 (IntKind.wrap IntKind.i64 (n + 1)))), (4, .dat (.int .i64 (IntKind.wrap IntKind.i64 (i + 1)))), (9, .dat (.int .i64 i)), (10, .dat (.int .i64 (IntKind.wrap IntKind.i64 (i + 1))))]) ([]) else K (Exit.normal) (mkF 19 [(0, .dat (.slc (Sh.agg [Sh.one, Sh.one, Sh.one, Sh.one, Sh.agg [Sh.one, Sh.one]]) ls)), (3, .dat (.int .i64 n)), (4, .dat (.int .i64 (IntKind.wrap IntKind.i64 (i + 1)))), (9, .dat (.int .i64 i)), (10, .dat (.int .i64 (IntKind.wrap IntKind.i64 (i + 1))))]) ([])) else none) else none) else none) else K (Exit.exit 0) (mkF 19 [(3, .dat (.int .i64 n))]) ([])) := by kernel_rfl
theorem us_hr (lp : Loops) (ls : List D) : ∀ (sA : (Int × Int)) (K : Kt) (N : (Int × Int) → Option Res), (∀ sB fr' σ', cleanF (liveAt Try.f29 0) 0 fr' = us_fr ls sB → trim (0) (us_fr ls sB) σ' = us_st ls sB → K .normal fr' σ' = N sB) →
    oneRound (envOf tab [] [] lp []) Try.f29 0 (0) (us_fr ls sA) (us_st ls sA) K = (us_step ls sA).k (LK K N) := by
  intro sA K N hN
  obtain ⟨i, n⟩ := sA
  refine (us_round lp ls i n K).trans ?_
  show _ = T.k ((
  .chk (!decide (i < (↑(List.length ls) : Int)) || decide (0 ≤ i) && (decide (Int.toNat i < List.length ls) && okE (Ek.agg [Ek.bool, Ek.str, Ek.int IntKind.i64, Ek.int IntKind.i64, Ek.agg [Ek.int IntKind.i64, Ek.int IntKind.i64]]) (nthD ls (Int.toNat i)))) (
   .br (!decide (i < (↑(List.length ls) : Int))) (.leaf (.inr ((some 0), mkF 19 [(3, .dat (.int .i64 n))], []))) (.leaf (.inl ((IntKind.wrap IntKind.i64 (i + 1)), (bif D.getB (nthD (D.getL (nthD ls (Int.toNat i))) 0) then IntKind.wrap IntKind.i64 (n + 1) else n)))))) : T ((Int × Int) ⊕ LOut)) (LK K N)
  generalize (okE (Ek.agg [Ek.bool, Ek.str, Ek.int IntKind.i64, Ek.int IntKind.i64, Ek.agg [Ek.int IntKind.i64, Ek.int IntKind.i64]]) (nthD ls (Int.toNat i))) = z0
  generalize (decide (i < (↑(List.length ls) : Int))) = z1
  generalize (decide (0 ≤ i)) = z2
  generalize (decide (Int.toNat i < List.length ls)) = z3
  generalize (D.getB (nthD (D.getL (nthD ls (Int.toNat i))) 0)) = z4
  cases z1 with
  | true =>
   cases z2 with
   | true =>
    cases z3 with
    | true =>
     cases z0 with
     | true =>
      cases z4 with
      | true =>
       exact hN _ _ _ (by kernel_rfl) (by kernel_rfl)
      | false =>
       exact hN _ _ _ (by kernel_rfl) (by kernel_rfl)
     | false =>
      rfl
    | false =>
     rfl
   | false =>
    rfl
  | false =>
   rfl
theorem us_enter (ls : List D) (i n : Int) (fr : Frame') (hl : Nat.beq fr.length 19 = true) (g0 : fr.getD 0 .undef = .dat (.slc (Sh.agg [Sh.one, Sh.one, Sh.one, Sh.one, Sh.agg [Sh.one, Sh.one]]) ls)) (g3 : fr.getD 3 .undef = .dat (.int .i64 n)) (g4 : fr.getD 4 .undef = .dat (.int .i64 i)) : cleanF (liveAt Try.f29 0) 0 fr = us_fr ls (i, n) := by
  have e : liveAt Try.f29 0 = [0, 4, 3] := by kernel_rfl
  rw [clean_mk (Nat.eq_of_beq_eq_true hl), e]
  show mkF 19 [(0, fr.getD 0 .undef), (4, fr.getD 4 .undef), (3, fr.getD 3 .undef)] = _
  rw [g0, g4, g3]
  kernel_rfl

/-- How many are there. -/
def usI (ls : List D) (i : Nat) : Int := bif fU (nthD ls i) then 1 else 0
def usN (ls : List D) : Int := sumR (usI ls) ls.length
theorem usI_bd (ls : List D) (i : Nat) : 0 ≤ usI ls i ∧ usI ls i ≤ 1 := by
  unfold usI; cases fU (nthD ls i) <;> decide
theorem us_closed (ls : List D) (hc : okEs ls = true) : ∃ z, (iterT (us_step ls) z (0, 0)).run = T.run (.leaf (some 0, mkF 19 [(3, .dat (.int .i64 (usN ls)))], [])) := by
  obtain ⟨h1, h2⟩ := okEs_spec hc
  refine iter_range (n := ls.length) (fun i => sumR (usI ls) i) (fun i hi => ?_) ?_
  · have hb := sumR_bd (usI_bd ls) i
    have hs : sumR (usI ls) (i + 1) = sumR (usI ls) i + usI ls i := rfl
    have hv : (bif fU (nthD ls i) then IntKind.wrap IntKind.i64 (sumR (usI ls) i + 1) else sumR (usI ls) i) = sumR (usI ls) (i + 1) := by
      rw [hs]
      cases hu : fU (nthD ls i) with
      | false =>
        have : usI ls i = 0 := by unfold usI; rw [hu]; rfl
        simp only [cond_false]; omega
      | true =>
        have : usI ls i = 1 := by unfold usI; rw [hu]; rfl
        simp only [cond_true]; rw [IntKind.wrap_i64]; omega
    unfold us_step
    simp only [decide_eq_true (show (i : Int) < (ls.length : Int) by omega), decide_eq_true (show (0 : Int) ≤ (i : Int) by omega), Int.toNat_natCast, decide_eq_true hi, allE_nth h1 hi, hv, wrap_succ (show i < 2 ^ 62 by omega), Bool.not_true, Bool.false_or, Bool.true_and, T.run_br, T.run_chk, T.run_leaf, cond_true, cond_false]
  · unfold us_step
    simp only [decide_eq_false (show ¬ (ls.length : Int) < (ls.length : Int) by omega)]
    rfl
def L_us : Frame' → Store → T (Exit × Frame' × Store) := fun fr σ => match fr.getD 0 .undef, fr.getD 3 .undef, fr.getD 4 .undef, σ with
  | AV.dat (D.slc (Sh.agg [Sh.one, Sh.one, Sh.one, Sh.one, Sh.agg [Sh.one, Sh.one]]) ls), AV.dat (D.int IntKind.i64 0), AV.dat (D.int IntKind.i64 0), [] => .chk (Nat.beq fr.length 19 && (okEs ls)) (T.bind (.leaf (some 0, mkF 19 [(3, .dat (.int .i64 (usN ls)))], [])) fun o => .leaf (outEx o.1, o.2.1, o.2.2))
  | _, _, _, _ => .fail
theorem us_sem (lp : Loops) : ∀ fr σ p, (L_us fr σ).run = some p → ∀ (K : Kt) r, K p.1 p.2.1 p.2.2 = some r → ∃ n, loopRun (envOf tab [] [] lp []) Try.f29 0 σ.length n (cleanF (liveAt Try.f29 0) 0 fr) σ K = some r := by
  intro fr σ p h K r hK
  unfold L_us at h
  split at h
  · rename_i ls g0 g3 g4
    obtain ⟨hc, h'⟩ := T.chk_some h
    rw [Bool.and_eq_true] at hc
    obtain ⟨hl, hc⟩ := hc
    obtain ⟨o, ho, h'⟩ := T.bind_some h'
    have hp := T.leaf_some h'
    subst hp
    obtain ⟨nF, hn⟩ : ∃ nF, (iterT (us_step ls) nF ((0, 0))).run = T.run (.leaf (some 0, mkF 19 [(3, .dat (.int .i64 (usN ls)))], [])) := us_closed ls hc
    rw [ho] at hn
    refine ⟨nF, ?_⟩
    have he : cleanF (liveAt Try.f29 0) 0 fr = us_fr ls ((0, 0)) := us_enter ls _ _ fr hl g0 g3 g4
    refine (iter_ok (base := 0) (us_hr lp ls) K nF ((0, 0)) _ _ (by rw [clean_clean]; exact he) (by kernel_rfl)).trans ?_
    rw [T.k_run hn]
    exact hK
  · simp [T.run_fail] at h
theorem us_loopOk (lp : Loops) (hk : Loops.get lp 3 = some L_us) : LoopOk (envOf tab [] [] lp []) (loopAt Try.f29 0).1 (loopAt Try.f29 0).2 := loop_ok (L := L_us) hk (us_sem lp)

def C_us : FunT := fun args σ => match args, σ with
  | [AV.dat (D.slc (Sh.agg [Sh.one, Sh.one, Sh.one, Sh.one, Sh.agg [Sh.one, Sh.one]]) ls)], [] => .chk (okEs ls) (.leaf ([AV.dat (D.int IntKind.i64 (usN ls))], []))
  | _, _ => .fail
theorem us_raw0 (ls : List D) : runF (envOf tab [] [] [(3, L_us)] []) true Try.f29 [.dat (.slc (.agg [.one, .one, .one, .one, .agg [.one, .one]]) ls)] [] =
  (bif okEs ls then some ([.dat (.int .i64 (usN ls))], []) else none) := by kernel_rfl
theorem us_case0 (ls : List D) : runF (envOf tab [] [] [(3, L_us)] []) true Try.f29 [.dat (.slc (.agg [.one, .one, .one, .one, .agg [.one, .one]]) ls)] [] = FunT.run C_us [.dat (.slc (.agg [.one, .one, .one, .one, .agg [.one, .one]]) ls)] [] := (us_raw0 ls).trans (by
  show _ = (cond (okEs ls) (some (([.dat (.int .i64 (usN ls))], []) : Res)) none)
  generalize (okEs ls) = z0
  cases z0 with
  | true =>
   rfl
  | false =>
   rfl
  )
theorem cus_ok : FunOk Try.prog 29 (FunT.run C_us) := by
  refine fun_ok (E := envOf tab [] [] [(3, L_us)] []) (fz := true) (fn := Try.f29) (envOf_ok progOk (.nil _)) (by kernel_rfl) (by kernel_rfl) (loops_one (by kernel_rfl) (us_loopOk _ rfl)) ?_
  intro args σ r h
  unfold C_us at h
  split at h
  · exact (us_case0 _).trans h
  · simp [T.run_fail] at h

abbrev SpS : Specs := [(6, C_right), (7, C_alive), (8, C_held), (28, C_dod), (29, C_us)]
theorem SpS_ok : SpecsOk Try.prog SpS := .cons cright_ok (.cons calive_ok (.cons cheld_ok (.cons cdod_ok (.cons cus_ok (.nil _)))))
abbrev HQ : Hints := [(2, 0, [.kill 18, .freeze 5, .cut 0])]
def si_fr (ds now nx : List D) (th i : Int) : Int → Frame' := fun k => mkF 167 [(1, .dat (.slc (.agg [.one, .one, .one, .one, .agg [.one, .one], .one]) ds)), (5, .dat (.slc (.agg [.one, .one, .one, .one, .agg [.one, .one]]) now)), (6, .dat (.int .i64 th)), (7, .dat (.int .i64 i)), (8, .dat (.slc (.agg [.one, .one, .one, .one, .agg [.one, .one]]) nx)), (10, .dat (.int .i64 k))]
def si_st (_ds _now _nx : List D) (_th _i : Int) : Int → Store := fun _ => []
def si_step (ds now nx : List D) (th i : Int) : Int → T (Int ⊕ LOut) := fun k => 
  .chk (!decide (k < (↑(List.length now) : Int)) || decide (0 ≤ k) && (decide (Int.toNat k < List.length now) && (okE (Ek.agg [Ek.bool, Ek.str, Ek.int IntKind.i64, Ek.int IntKind.i64, Ek.agg [Ek.int IntKind.i64, Ek.int IntKind.i64]]) (nthD now (Int.toNat k)) && bif D.getB (nthD (D.getL (nthD now (Int.toNat k))) 0) then decide (Int.toNat k < List.length nx) && (okE (Ek.agg [Ek.bool, Ek.str, Ek.int IntKind.i64, Ek.int IntKind.i64, Ek.agg [Ek.int IntKind.i64, Ek.int IntKind.i64]]) (nthD nx (Int.toNat k)) && bif D.getB (nthD (D.getL (nthD nx (Int.toNat k))) 0) then !decide (Array.toList (ByteArray.data (D.getS (nthD (D.getL (nthD now (Int.toNat k))) 1))) = Array.toList (ByteArray.data (D.getS (nthD (D.getL (nthD nx (Int.toNat k))) 1)))) || decide (0 ≤ i) && (decide (Int.toNat i < List.length ds) && okE (Ek.agg [Ek.int IntKind.i64, Ek.int IntKind.i64, Ek.int IntKind.i64, Ek.int IntKind.i64, Ek.agg [Ek.int IntKind.i64, Ek.int IntKind.i64], Ek.str]) (nthD ds (Int.toNat i))) else decide (0 ≤ i) && (decide (Int.toNat i < List.length ds) && okE (Ek.agg [Ek.int IntKind.i64, Ek.int IntKind.i64, Ek.int IntKind.i64, Ek.int IntKind.i64, Ek.agg [Ek.int IntKind.i64, Ek.int IntKind.i64], Ek.str]) (nthD ds (Int.toNat i)))) else decide (0 ≤ i) && (decide (Int.toNat i < List.length ds) && (okE (Ek.agg [Ek.int IntKind.i64, Ek.int IntKind.i64, Ek.int IntKind.i64, Ek.int IntKind.i64, Ek.agg [Ek.int IntKind.i64, Ek.int IntKind.i64], Ek.str]) (nthD ds (Int.toNat i)) && (!decide (1 < D.getI (nthD (D.getL (nthD ds (Int.toNat i))) 0)) || decide (Int.toNat k < List.length nx) && okE (Ek.agg [Ek.bool, Ek.str, Ek.int IntKind.i64, Ek.int IntKind.i64, Ek.agg [Ek.int IntKind.i64, Ek.int IntKind.i64]]) (nthD nx (Int.toNat k)))))))) (
   .br (!decide (k < (↑(List.length now) : Int))) (.leaf (.inr ((some 2), mkF 167 [(1, .dat (.slc (Sh.agg [Sh.one, Sh.one, Sh.one, Sh.one, Sh.agg [Sh.one, Sh.one], Sh.one]) ds)), (6, .dat (.int .i64 th)), (7, .dat (.int .i64 i)), (8, .dat (.slc (Sh.agg [Sh.one, Sh.one, Sh.one, Sh.one, Sh.agg [Sh.one, Sh.one]]) nx))], []))) (
    .br (decide (k < (↑(List.length now) : Int)) && bif D.getB (nthD (D.getL (nthD now (Int.toNat k))) 0) then bif D.getB (nthD (D.getL (nthD nx (Int.toNat k))) 0) then !decide (Array.toList (ByteArray.data (D.getS (nthD (D.getL (nthD now (Int.toNat k))) 1))) = Array.toList (ByteArray.data (D.getS (nthD (D.getL (nthD nx (Int.toNat k))) 1)))) || decide (1 < D.getI (nthD (D.getL (nthD ds (Int.toNat i))) 0)) && !D.getB (nthD (D.getL (nthD now (Int.toNat k))) 0) == D.getB (nthD (D.getL (nthD nx (Int.toNat k))) 0) else decide (1 < D.getI (nthD (D.getL (nthD ds (Int.toNat i))) 0)) && !D.getB (nthD (D.getL (nthD now (Int.toNat k))) 0) == D.getB (nthD (D.getL (nthD nx (Int.toNat k))) 0) else decide (1 < D.getI (nthD (D.getL (nthD ds (Int.toNat i))) 0)) && !D.getB (nthD (D.getL (nthD now (Int.toNat k))) 0) == D.getB (nthD (D.getL (nthD nx (Int.toNat k))) 0)) (.leaf (.inr (none, mkF 167 [(4, .dat (.bool false))], []))) (.leaf (.inl (IntKind.wrap IntKind.i64 (k + 1))))))
theorem si_round (lp : Loops) (ds now nx : List D) (th i : Int) (k : Int) (K : Kt) : oneRound (envOf tab SpS [] lp HQ) Try.f5 1 (0) (mkF 167 [(1, .dat (.slc (.agg [.one, .one, .one, .one, .agg [.one, .one], .one]) ds)), (5, .dat (.slc (.agg [.one, .one, .one, .one, .agg [.one, .one]]) now)), (6, .dat (.int .i64 th)), (7, .dat (.int .i64 i)), (8, .dat (.slc (.agg [.one, .one, .one, .one, .agg [.one, .one]]) nx)), (10, .dat (.int .i64 k))]) ([]) K =
  (bif decide (k < (↑(List.length now) : Int)) then 
   (bif decide (0 ≤ k) then 
    (bif decide (Int.toNat k < List.length now) then 
     (bif okE (Ek.agg [Ek.bool, Ek.str, Ek.int IntKind.i64, Ek.int IntKind.i64, Ek.agg [Ek.int IntKind.i64, Ek.int IntKind.i64]]) (nthD now (Int.toNat k)) then 
      (bif D.getB (nthD (D.getL (nthD now (Int.toNat k))) 0) then 
       (bif decide (0 ≤ k) then 
        (bif decide (Int.toNat k < List.length nx) then 
         (bif okE (Ek.agg [Ek.bool, Ek.str, Ek.int IntKind.i64, Ek.int IntKind.i64, Ek.agg [Ek.int IntKind.i64, Ek.int IntKind.i64]]) (nthD nx (Int.toNat k)) then 
          (bif D.getB (nthD (D.getL (nthD nx (Int.toNat k))) 0) then 
           (bif decide (0 ≤ k) then 
            (bif decide (Int.toNat k < List.length now) then 
             (bif okE (Ek.agg [Ek.bool, Ek.str, Ek.int IntKind.i64, Ek.int IntKind.i64, Ek.agg [Ek.int IntKind.i64, Ek.int IntKind.i64]]) (nthD now (Int.toNat k)) then 
              (bif decide (0 ≤ k) then 
               (bif decide (Int.toNat k < List.length nx) then 
                (bif okE (Ek.agg [Ek.bool, Ek.str, Ek.int IntKind.i64, Ek.int IntKind.i64, Ek.agg [Ek.int IntKind.i64, Ek.int IntKind.i64]]) (nthD nx (Int.toNat k)) then 
                 (bif !decide (Array.toList (ByteArray.data (D.getS (nthD (D.getL (nthD now (Int.toNat k))) 1))) = Array.toList (ByteArray.data (D.getS (nthD (D.getL (nthD nx (Int.toNat k))) 1)))) then K (Exit.ret) (mkF 167 [(4, .dat (.bool false))]) ([]) else 
                  (bif decide (0 ≤ i) then 
                   (bif decide (Int.toNat i < List.length ds) then 
                    (bif okE (Ek.agg [Ek.int IntKind.i64, Ek.int IntKind.i64, Ek.int IntKind.i64, Ek.int IntKind.i64, Ek.agg [Ek.int IntKind.i64, Ek.int IntKind.i64], Ek.str]) (nthD ds (Int.toNat i)) then 
                     (bif decide (D.getI (nthD (D.getL (nthD ds (Int.toNat i))) 0) > 1) then 
                      (bif decide (0 ≤ k) then 
                       (bif decide (Int.toNat k < List.length now) then 
                        (bif okE (Ek.agg [Ek.bool, Ek.str, Ek.int IntKind.i64, Ek.int IntKind.i64, Ek.agg [Ek.int IntKind.i64, Ek.int IntKind.i64]]) (nthD now (Int.toNat k)) then 
                         (bif decide (0 ≤ k) then 
                          (bif decide (Int.toNat k < List.length nx) then 
                           (bif okE (Ek.agg [Ek.bool, Ek.str, Ek.int IntKind.i64, Ek.int IntKind.i64, Ek.agg [Ek.int IntKind.i64, Ek.int IntKind.i64]]) (nthD nx (Int.toNat k)) then 
                            (bif true != (D.getB (nthD (D.getL (nthD now (Int.toNat k))) 0) == D.getB (nthD (D.getL (nthD nx (Int.toNat k))) 0)) then K (Exit.ret) (mkF 167 [(4, .dat (.bool false))]) ([]) else K (Exit.normal) (mkF 167 [(1, .dat (.slc (Sh.agg [Sh.one, Sh.one, Sh.one, Sh.one, Sh.agg [Sh.one, Sh.one], Sh.one]) ds)), (5, .dat (.slc (Sh.agg [Sh.one, Sh.one, Sh.one, Sh.one, Sh.agg [Sh.one, Sh.one]]) now)), (6, .dat (.int .i64 th)), (7, .dat (.int .i64 i)), (8, .dat (.slc (Sh.agg [Sh.one, Sh.one, Sh.one, Sh.one, Sh.agg [Sh.one, Sh.one]]) nx)), (10, .dat (.int .i64 (IntKind.wrap IntKind.i64 (k + 1)))), (79, .dat (.int .i64 k)), (80, .dat (.int .i64 (IntKind.wrap IntKind.i64 (k + 1))))]) ([])) else none) else none) else none) else none) else none) else none) else K (Exit.normal) (mkF 167 [(1, .dat (.slc (Sh.agg [Sh.one, Sh.one, Sh.one, Sh.one, Sh.agg [Sh.one, Sh.one], Sh.one]) ds)), (5, .dat (.slc (Sh.agg [Sh.one, Sh.one, Sh.one, Sh.one, Sh.agg [Sh.one, Sh.one]]) now)), (6, .dat (.int .i64 th)), (7, .dat (.int .i64 i)), (8, .dat (.slc (Sh.agg [Sh.one, Sh.one, Sh.one, Sh.one, Sh.agg [Sh.one, Sh.one]]) nx)), (10, .dat (.int .i64 (IntKind.wrap IntKind.i64 (k + 1)))), (79, .dat (.int .i64 k)), (80, .dat (.int .i64 (IntKind.wrap IntKind.i64 (k + 1))))]) ([])) else none) else none) else none)) else none) else none) else none) else none) else none) else none) else 
           (bif decide (0 ≤ i) then 
            (bif decide (Int.toNat i < List.length ds) then 
             (bif okE (Ek.agg [Ek.int IntKind.i64, Ek.int IntKind.i64, Ek.int IntKind.i64, Ek.int IntKind.i64, Ek.agg [Ek.int IntKind.i64, Ek.int IntKind.i64], Ek.str]) (nthD ds (Int.toNat i)) then 
              (bif decide (D.getI (nthD (D.getL (nthD ds (Int.toNat i))) 0) > 1) then 
               (bif decide (0 ≤ k) then 
                (bif decide (Int.toNat k < List.length now) then 
                 (bif okE (Ek.agg [Ek.bool, Ek.str, Ek.int IntKind.i64, Ek.int IntKind.i64, Ek.agg [Ek.int IntKind.i64, Ek.int IntKind.i64]]) (nthD now (Int.toNat k)) then 
                  (bif decide (0 ≤ k) then 
                   (bif decide (Int.toNat k < List.length nx) then 
                    (bif okE (Ek.agg [Ek.bool, Ek.str, Ek.int IntKind.i64, Ek.int IntKind.i64, Ek.agg [Ek.int IntKind.i64, Ek.int IntKind.i64]]) (nthD nx (Int.toNat k)) then 
                     (bif true != (D.getB (nthD (D.getL (nthD now (Int.toNat k))) 0) == D.getB (nthD (D.getL (nthD nx (Int.toNat k))) 0)) then K (Exit.ret) (mkF 167 [(4, .dat (.bool false))]) ([]) else K (Exit.normal) (mkF 167 [(1, .dat (.slc (Sh.agg [Sh.one, Sh.one, Sh.one, Sh.one, Sh.agg [Sh.one, Sh.one], Sh.one]) ds)), (5, .dat (.slc (Sh.agg [Sh.one, Sh.one, Sh.one, Sh.one, Sh.agg [Sh.one, Sh.one]]) now)), (6, .dat (.int .i64 th)), (7, .dat (.int .i64 i)), (8, .dat (.slc (Sh.agg [Sh.one, Sh.one, Sh.one, Sh.one, Sh.agg [Sh.one, Sh.one]]) nx)), (10, .dat (.int .i64 (IntKind.wrap IntKind.i64 (k + 1)))), (79, .dat (.int .i64 k)), (80, .dat (.int .i64 (IntKind.wrap IntKind.i64 (k + 1))))]) ([])) else none) else none) else none) else none) else none) else none) else K (Exit.normal) (mkF 167 [(1, .dat (.slc (Sh.agg [Sh.one, Sh.one, Sh.one, Sh.one, Sh.agg [Sh.one, Sh.one], Sh.one]) ds)), (5, .dat (.slc (Sh.agg [Sh.one, Sh.one, Sh.one, Sh.one, Sh.agg [Sh.one, Sh.one]]) now)), (6, .dat (.int .i64 th)), (7, .dat (.int .i64 i)), (8, .dat (.slc (Sh.agg [Sh.one, Sh.one, Sh.one, Sh.one, Sh.agg [Sh.one, Sh.one]]) nx)), (10, .dat (.int .i64 (IntKind.wrap IntKind.i64 (k + 1)))), (79, .dat (.int .i64 k)), (80, .dat (.int .i64 (IntKind.wrap IntKind.i64 (k + 1))))]) ([])) else none) else none) else none)) else none) else none) else none) else 
       (bif decide (0 ≤ i) then 
        (bif decide (Int.toNat i < List.length ds) then 
         (bif okE (Ek.agg [Ek.int IntKind.i64, Ek.int IntKind.i64, Ek.int IntKind.i64, Ek.int IntKind.i64, Ek.agg [Ek.int IntKind.i64, Ek.int IntKind.i64], Ek.str]) (nthD ds (Int.toNat i)) then 
          (bif decide (D.getI (nthD (D.getL (nthD ds (Int.toNat i))) 0) > 1) then 
           (bif decide (0 ≤ k) then 
            (bif decide (Int.toNat k < List.length now) then 
             (bif okE (Ek.agg [Ek.bool, Ek.str, Ek.int IntKind.i64, Ek.int IntKind.i64, Ek.agg [Ek.int IntKind.i64, Ek.int IntKind.i64]]) (nthD now (Int.toNat k)) then 
              (bif decide (0 ≤ k) then 
               (bif decide (Int.toNat k < List.length nx) then 
                (bif okE (Ek.agg [Ek.bool, Ek.str, Ek.int IntKind.i64, Ek.int IntKind.i64, Ek.agg [Ek.int IntKind.i64, Ek.int IntKind.i64]]) (nthD nx (Int.toNat k)) then 
                 (bif true != (D.getB (nthD (D.getL (nthD now (Int.toNat k))) 0) == D.getB (nthD (D.getL (nthD nx (Int.toNat k))) 0)) then K (Exit.ret) (mkF 167 [(4, .dat (.bool false))]) ([]) else K (Exit.normal) (mkF 167 [(1, .dat (.slc (Sh.agg [Sh.one, Sh.one, Sh.one, Sh.one, Sh.agg [Sh.one, Sh.one], Sh.one]) ds)), (5, .dat (.slc (Sh.agg [Sh.one, Sh.one, Sh.one, Sh.one, Sh.agg [Sh.one, Sh.one]]) now)), (6, .dat (.int .i64 th)), (7, .dat (.int .i64 i)), (8, .dat (.slc (Sh.agg [Sh.one, Sh.one, Sh.one, Sh.one, Sh.agg [Sh.one, Sh.one]]) nx)), (10, .dat (.int .i64 (IntKind.wrap IntKind.i64 (k + 1)))), (79, .dat (.int .i64 k)), (80, .dat (.int .i64 (IntKind.wrap IntKind.i64 (k + 1))))]) ([])) else none) else none) else none) else none) else none) else none) else K (Exit.normal) (mkF 167 [(1, .dat (.slc (Sh.agg [Sh.one, Sh.one, Sh.one, Sh.one, Sh.agg [Sh.one, Sh.one], Sh.one]) ds)), (5, .dat (.slc (Sh.agg [Sh.one, Sh.one, Sh.one, Sh.one, Sh.agg [Sh.one, Sh.one]]) now)), (6, .dat (.int .i64 th)), (7, .dat (.int .i64 i)), (8, .dat (.slc (Sh.agg [Sh.one, Sh.one, Sh.one, Sh.one, Sh.agg [Sh.one, Sh.one]]) nx)), (10, .dat (.int .i64 (IntKind.wrap IntKind.i64 (k + 1)))), (79, .dat (.int .i64 k)), (80, .dat (.int .i64 (IntKind.wrap IntKind.i64 (k + 1))))]) ([])) else none) else none) else none)) else none) else none) else none) else K (Exit.exit 2) (mkF 167 [(1, .dat (.slc (Sh.agg [Sh.one, Sh.one, Sh.one, Sh.one, Sh.agg [Sh.one, Sh.one], Sh.one]) ds)), (6, .dat (.int .i64 th)), (7, .dat (.int .i64 i)), (8, .dat (.slc (Sh.agg [Sh.one, Sh.one, Sh.one, Sh.one, Sh.agg [Sh.one, Sh.one]]) nx))]) ([])) := by kernel_rfl
theorem si_hr (lp : Loops) (ds now nx : List D) (th i : Int) : ∀ (sA : Int) (K : Kt) (N : Int → Option Res), (∀ sB fr' σ', cleanF (liveAt Try.f5 1) 0 fr' = si_fr ds now nx th i sB → trim (0) (si_fr ds now nx th i sB) σ' = si_st ds now nx th i sB → K .normal fr' σ' = N sB) →
    oneRound (envOf tab SpS [] lp HQ) Try.f5 1 (0) (si_fr ds now nx th i sA) (si_st ds now nx th i sA) K = (si_step ds now nx th i sA).k (LK K N) := by
  intro k K N hN
  refine (si_round lp ds now nx th i k K).trans ?_
  show _ = T.k ((
  .chk (!decide (k < (↑(List.length now) : Int)) || decide (0 ≤ k) && (decide (Int.toNat k < List.length now) && (okE (Ek.agg [Ek.bool, Ek.str, Ek.int IntKind.i64, Ek.int IntKind.i64, Ek.agg [Ek.int IntKind.i64, Ek.int IntKind.i64]]) (nthD now (Int.toNat k)) && bif D.getB (nthD (D.getL (nthD now (Int.toNat k))) 0) then decide (Int.toNat k < List.length nx) && (okE (Ek.agg [Ek.bool, Ek.str, Ek.int IntKind.i64, Ek.int IntKind.i64, Ek.agg [Ek.int IntKind.i64, Ek.int IntKind.i64]]) (nthD nx (Int.toNat k)) && bif D.getB (nthD (D.getL (nthD nx (Int.toNat k))) 0) then !decide (Array.toList (ByteArray.data (D.getS (nthD (D.getL (nthD now (Int.toNat k))) 1))) = Array.toList (ByteArray.data (D.getS (nthD (D.getL (nthD nx (Int.toNat k))) 1)))) || decide (0 ≤ i) && (decide (Int.toNat i < List.length ds) && okE (Ek.agg [Ek.int IntKind.i64, Ek.int IntKind.i64, Ek.int IntKind.i64, Ek.int IntKind.i64, Ek.agg [Ek.int IntKind.i64, Ek.int IntKind.i64], Ek.str]) (nthD ds (Int.toNat i))) else decide (0 ≤ i) && (decide (Int.toNat i < List.length ds) && okE (Ek.agg [Ek.int IntKind.i64, Ek.int IntKind.i64, Ek.int IntKind.i64, Ek.int IntKind.i64, Ek.agg [Ek.int IntKind.i64, Ek.int IntKind.i64], Ek.str]) (nthD ds (Int.toNat i)))) else decide (0 ≤ i) && (decide (Int.toNat i < List.length ds) && (okE (Ek.agg [Ek.int IntKind.i64, Ek.int IntKind.i64, Ek.int IntKind.i64, Ek.int IntKind.i64, Ek.agg [Ek.int IntKind.i64, Ek.int IntKind.i64], Ek.str]) (nthD ds (Int.toNat i)) && (!decide (1 < D.getI (nthD (D.getL (nthD ds (Int.toNat i))) 0)) || decide (Int.toNat k < List.length nx) && okE (Ek.agg [Ek.bool, Ek.str, Ek.int IntKind.i64, Ek.int IntKind.i64, Ek.agg [Ek.int IntKind.i64, Ek.int IntKind.i64]]) (nthD nx (Int.toNat k)))))))) (
   .br (!decide (k < (↑(List.length now) : Int))) (.leaf (.inr ((some 2), mkF 167 [(1, .dat (.slc (Sh.agg [Sh.one, Sh.one, Sh.one, Sh.one, Sh.agg [Sh.one, Sh.one], Sh.one]) ds)), (6, .dat (.int .i64 th)), (7, .dat (.int .i64 i)), (8, .dat (.slc (Sh.agg [Sh.one, Sh.one, Sh.one, Sh.one, Sh.agg [Sh.one, Sh.one]]) nx))], []))) (
    .br (decide (k < (↑(List.length now) : Int)) && bif D.getB (nthD (D.getL (nthD now (Int.toNat k))) 0) then bif D.getB (nthD (D.getL (nthD nx (Int.toNat k))) 0) then !decide (Array.toList (ByteArray.data (D.getS (nthD (D.getL (nthD now (Int.toNat k))) 1))) = Array.toList (ByteArray.data (D.getS (nthD (D.getL (nthD nx (Int.toNat k))) 1)))) || decide (1 < D.getI (nthD (D.getL (nthD ds (Int.toNat i))) 0)) && !D.getB (nthD (D.getL (nthD now (Int.toNat k))) 0) == D.getB (nthD (D.getL (nthD nx (Int.toNat k))) 0) else decide (1 < D.getI (nthD (D.getL (nthD ds (Int.toNat i))) 0)) && !D.getB (nthD (D.getL (nthD now (Int.toNat k))) 0) == D.getB (nthD (D.getL (nthD nx (Int.toNat k))) 0) else decide (1 < D.getI (nthD (D.getL (nthD ds (Int.toNat i))) 0)) && !D.getB (nthD (D.getL (nthD now (Int.toNat k))) 0) == D.getB (nthD (D.getL (nthD nx (Int.toNat k))) 0)) (.leaf (.inr (none, mkF 167 [(4, .dat (.bool false))], []))) (.leaf (.inl (IntKind.wrap IntKind.i64 (k + 1))))))) : T (Int ⊕ LOut)) (LK K N)
  generalize (decide (Array.toList (ByteArray.data (D.getS (nthD (D.getL (nthD now (Int.toNat k))) 1))) = Array.toList (ByteArray.data (D.getS (nthD (D.getL (nthD nx (Int.toNat k))) 1))))) = z0
  generalize (okE (Ek.agg [Ek.int IntKind.i64, Ek.int IntKind.i64, Ek.int IntKind.i64, Ek.int IntKind.i64, Ek.agg [Ek.int IntKind.i64, Ek.int IntKind.i64], Ek.str]) (nthD ds (Int.toNat i))) = z1
  generalize (decide (1 < D.getI (nthD (D.getL (nthD ds (Int.toNat i))) 0))) = z2
  generalize (okE (Ek.agg [Ek.bool, Ek.str, Ek.int IntKind.i64, Ek.int IntKind.i64, Ek.agg [Ek.int IntKind.i64, Ek.int IntKind.i64]]) (nthD nx (Int.toNat k))) = z3
  generalize (okE (Ek.agg [Ek.bool, Ek.str, Ek.int IntKind.i64, Ek.int IntKind.i64, Ek.agg [Ek.int IntKind.i64, Ek.int IntKind.i64]]) (nthD now (Int.toNat k))) = z4
  generalize (D.getB (nthD (D.getL (nthD now (Int.toNat k))) 0) == D.getB (nthD (D.getL (nthD nx (Int.toNat k))) 0)) = z5
  generalize (decide (k < (↑(List.length now) : Int))) = z6
  generalize (decide (0 ≤ i)) = z7
  generalize (decide (0 ≤ k)) = z8
  generalize (decide (Int.toNat i < List.length ds)) = z9
  generalize (decide (Int.toNat k < List.length nx)) = z10
  generalize (decide (Int.toNat k < List.length now)) = z11
  generalize (D.getB (nthD (D.getL (nthD nx (Int.toNat k))) 0)) = z12
  generalize (D.getB (nthD (D.getL (nthD now (Int.toNat k))) 0)) = z13
  cases z6 with
  | true =>
   cases z8 with
   | true =>
    cases z11 with
    | true =>
     cases z4 with
     | true =>
      cases z13 with
      | true =>
       cases z10 with
       | true =>
        cases z3 with
        | true =>
         cases z12 with
         | true =>
          cases z0 with
          | true =>
           cases z7 with
           | true =>
            cases z9 with
            | true =>
             cases z1 with
             | true =>
              cases z2 with
              | true =>
               cases z5 with
               | true =>
                exact hN _ _ _ (by kernel_rfl) (by kernel_rfl)
               | false =>
                rfl
              | false =>
               exact hN _ _ _ (by kernel_rfl) (by kernel_rfl)
             | false =>
              rfl
            | false =>
             rfl
           | false =>
            rfl
          | false =>
           rfl
         | false =>
          cases z7 with
          | true =>
           cases z9 with
           | true =>
            cases z1 with
            | true =>
             cases z2 with
             | true =>
              cases z5 with
              | true =>
               exact hN _ _ _ (by kernel_rfl) (by kernel_rfl)
              | false =>
               rfl
             | false =>
              exact hN _ _ _ (by kernel_rfl) (by kernel_rfl)
            | false =>
             rfl
           | false =>
            rfl
          | false =>
           rfl
        | false =>
         rfl
       | false =>
        rfl
      | false =>
       cases z7 with
       | true =>
        cases z9 with
        | true =>
         cases z1 with
         | true =>
          cases z2 with
          | true =>
           cases z10 with
           | true =>
            cases z3 with
            | true =>
             cases z5 with
             | true =>
              exact hN _ _ _ (by kernel_rfl) (by kernel_rfl)
             | false =>
              rfl
            | false =>
             rfl
           | false =>
            rfl
          | false =>
           exact hN _ _ _ (by kernel_rfl) (by kernel_rfl)
         | false =>
          rfl
        | false =>
         rfl
       | false =>
        rfl
     | false =>
      rfl
    | false =>
     rfl
   | false =>
    rfl
  | false =>
   rfl
theorem si_enter (ds now nx : List D) (th i : Int) (k : Int) (fr : Frame') (hl : Nat.beq fr.length 167 = true) (g1 : fr.getD 1 .undef = .dat (.slc (Sh.agg [Sh.one, Sh.one, Sh.one, Sh.one, Sh.agg [Sh.one, Sh.one], Sh.one]) ds)) (g5 : fr.getD 5 .undef = .dat (.slc (Sh.agg [Sh.one, Sh.one, Sh.one, Sh.one, Sh.agg [Sh.one, Sh.one]]) now)) (g6 : fr.getD 6 .undef = .dat (.int .i64 th)) (g7 : fr.getD 7 .undef = .dat (.int .i64 i)) (g8 : fr.getD 8 .undef = .dat (.slc (Sh.agg [Sh.one, Sh.one, Sh.one, Sh.one, Sh.agg [Sh.one, Sh.one]]) nx)) (g10 : fr.getD 10 .undef = .dat (.int .i64 k)) : cleanF (liveAt Try.f5 1) 0 fr = si_fr ds now nx th i k := by
  have e : liveAt Try.f5 1 = [5, 10, 8, 7, 1, 6] := by kernel_rfl
  rw [clean_mk (Nat.eq_of_beq_eq_true hl), e]
  show mkF 167 [(5, fr.getD 5 .undef), (10, fr.getD 10 .undef), (8, fr.getD 8 .undef), (7, fr.getD 7 .undef), (1, fr.getD 1 .undef), (6, fr.getD 6 .undef)] = _
  rw [g5, g10, g8, g7, g1, g6]
  kernel_rfl

def sh_fr (now : List D) (th : Int) : (Int × Int) → Frame' := fun ⟨w, h⟩ => mkF 167 [(5, .dat (.slc (.agg [.one, .one, .one, .one, .agg [.one, .one]]) now)), (6, .dat (.int .i64 th)), (11, .dat (.int .i64 h)), (12, .dat (.int .i64 w))]
def sh_st (_now : List D) (_th : Int) : (Int × Int) → Store := fun ⟨_, _⟩ => []
def sh_step (now : List D) (th : Int) : (Int × Int) → T ((Int × Int) ⊕ LOut) := fun ⟨w, h⟩ => 
  .chk (!decide (w < 128) || slots_pre now 1 w 0 0) (
   .br (!decide (w < 128)) (.leaf (.inr ((some 4), mkF 167 [(5, .dat (.slc (Sh.agg [Sh.one, Sh.one, Sh.one, Sh.one, Sh.agg [Sh.one, Sh.one]]) now)), (6, .dat (.int .i64 th)), (11, .dat (.int .i64 h))], []))) (.leaf (.inl ((IntKind.wrap IntKind.i64 (w + 1)), (IntKind.wrap IntKind.i64 (h + (↑(List.length (held_v0 now w)) : Int)))))))
theorem sh_round (lp : Loops) (now : List D) (th : Int) (w h : Int) (K : Kt) : oneRound (envOf tab SpS [] lp HQ) Try.f5 2 (0) (mkF 167 [(5, .dat (.slc (.agg [.one, .one, .one, .one, .agg [.one, .one]]) now)), (6, .dat (.int .i64 th)), (11, .dat (.int .i64 h)), (12, .dat (.int .i64 w))]) ([]) K =
  (bif decide (w < 128) then 
   (bif slots_pre now 1 w 0 0 then K (Exit.normal) (mkF 167 [(5, .dat (.slc (Sh.agg [Sh.one, Sh.one, Sh.one, Sh.one, Sh.agg [Sh.one, Sh.one]]) now)), (6, .dat (.int .i64 th)), (11, .dat (.int .i64 (IntKind.wrap IntKind.i64 (h + (↑(List.length (held_v0 now w)) : Int))))), (12, .dat (.int .i64 (IntKind.wrap IntKind.i64 (w + 1)))), (130, .dat (.int .i64 w)), (131, .dat (.int .i64 (IntKind.wrap IntKind.i64 (w + 1))))]) ([]) else none) else K (Exit.exit 4) (mkF 167 [(5, .dat (.slc (Sh.agg [Sh.one, Sh.one, Sh.one, Sh.one, Sh.agg [Sh.one, Sh.one]]) now)), (6, .dat (.int .i64 th)), (11, .dat (.int .i64 h))]) ([])) := by kernel_rfl
theorem sh_hr (lp : Loops) (now : List D) (th : Int) : ∀ (sA : (Int × Int)) (K : Kt) (N : (Int × Int) → Option Res), (∀ sB fr' σ', cleanF (liveAt Try.f5 2) 0 fr' = sh_fr now th sB → trim (0) (sh_fr now th sB) σ' = sh_st now th sB → K .normal fr' σ' = N sB) →
    oneRound (envOf tab SpS [] lp HQ) Try.f5 2 (0) (sh_fr now th sA) (sh_st now th sA) K = (sh_step now th sA).k (LK K N) := by
  intro sA K N hN
  obtain ⟨w, h⟩ := sA
  refine (sh_round lp now th w h K).trans ?_
  show _ = T.k ((
  .chk (!decide (w < 128) || slots_pre now 1 w 0 0) (
   .br (!decide (w < 128)) (.leaf (.inr ((some 4), mkF 167 [(5, .dat (.slc (Sh.agg [Sh.one, Sh.one, Sh.one, Sh.one, Sh.agg [Sh.one, Sh.one]]) now)), (6, .dat (.int .i64 th)), (11, .dat (.int .i64 h))], []))) (.leaf (.inl ((IntKind.wrap IntKind.i64 (w + 1)), (IntKind.wrap IntKind.i64 (h + (↑(List.length (held_v0 now w)) : Int)))))))) : T ((Int × Int) ⊕ LOut)) (LK K N)
  generalize (slots_pre now 1 w 0 0) = z0
  generalize (decide (w < 128)) = z1
  cases z1 with
  | true =>
   cases z0 with
   | true =>
    exact hN _ _ _ (by kernel_rfl) (by kernel_rfl)
   | false =>
    rfl
  | false =>
   rfl
theorem sh_enter (now : List D) (th : Int) (w h : Int) (fr : Frame') (hl : Nat.beq fr.length 167 = true) (g5 : fr.getD 5 .undef = .dat (.slc (Sh.agg [Sh.one, Sh.one, Sh.one, Sh.one, Sh.agg [Sh.one, Sh.one]]) now)) (g6 : fr.getD 6 .undef = .dat (.int .i64 th)) (g11 : fr.getD 11 .undef = .dat (.int .i64 h)) (g12 : fr.getD 12 .undef = .dat (.int .i64 w)) : cleanF (liveAt Try.f5 2) 0 fr = sh_fr now th (w, h) := by
  have e : liveAt Try.f5 2 = [12, 5, 11, 6] := by kernel_rfl
  rw [clean_mk (Nat.eq_of_beq_eq_true hl), e]
  show mkF 167 [(12, fr.getD 12 .undef), (5, fr.getD 5 .undef), (11, fr.getD 11 .undef), (6, fr.getD 6 .undef)] = _
  rw [g12, g5, g11, g6]
  kernel_rfl

def sy_fr (now : List D) (th hx : Int) : (Int × Int) → Frame' := fun ⟨k, n⟩ => mkF 167 [(5, .dat (.slc (.agg [.one, .one, .one, .one, .agg [.one, .one]]) now)), (6, .dat (.int .i64 th)), (11, .dat (.int .i64 hx)), (13, .dat (.int .i64 n)), (14, .dat (.int .i64 k))]
def sy_st (_now : List D) (_th _hx : Int) : (Int × Int) → Store := fun ⟨_, _⟩ => []
def sy_step (now : List D) (th hx : Int) : (Int × Int) → T ((Int × Int) ⊕ LOut) := fun ⟨k, n⟩ => 
  .chk (!decide (k < (↑(List.length now) : Int)) || decide (0 ≤ k) && (decide (Int.toNat k < List.length now) && okE (Ek.agg [Ek.bool, Ek.str, Ek.int IntKind.i64, Ek.int IntKind.i64, Ek.agg [Ek.int IntKind.i64, Ek.int IntKind.i64]]) (nthD now (Int.toNat k)))) (
   .br (!decide (k < (↑(List.length now) : Int))) (.leaf (.inr ((some 6), mkF 167 [(6, .dat (.int .i64 th)), (11, .dat (.int .i64 hx)), (13, .dat (.int .i64 n))], []))) (.leaf (.inl ((IntKind.wrap IntKind.i64 (k + 1)), (bif D.getB (nthD (D.getL (nthD now (Int.toNat k))) 0) then bif D.getI (nthD (D.getL (nthD now (Int.toNat k))) 2) != 1 then IntKind.wrap IntKind.i64 (n + 1) else n else n)))))
theorem sy_round (lp : Loops) (now : List D) (th hx : Int) (k n : Int) (K : Kt) : oneRound (envOf tab SpS [] lp HQ) Try.f5 3 (0) (mkF 167 [(5, .dat (.slc (.agg [.one, .one, .one, .one, .agg [.one, .one]]) now)), (6, .dat (.int .i64 th)), (11, .dat (.int .i64 hx)), (13, .dat (.int .i64 n)), (14, .dat (.int .i64 k))]) ([]) K =
  (bif decide (k < (↑(List.length now) : Int)) then 
   (bif decide (0 ≤ k) then 
    (bif decide (Int.toNat k < List.length now) then 
     (bif okE (Ek.agg [Ek.bool, Ek.str, Ek.int IntKind.i64, Ek.int IntKind.i64, Ek.agg [Ek.int IntKind.i64, Ek.int IntKind.i64]]) (nthD now (Int.toNat k)) then 
      (bif D.getB (nthD (D.getL (nthD now (Int.toNat k))) 0) then 
       (bif decide (0 ≤ k) then 
        (bif decide (Int.toNat k < List.length now) then 
         (bif okE (Ek.agg [Ek.bool, Ek.str, Ek.int IntKind.i64, Ek.int IntKind.i64, Ek.agg [Ek.int IntKind.i64, Ek.int IntKind.i64]]) (nthD now (Int.toNat k)) then 
          (bif D.getI (nthD (D.getL (nthD now (Int.toNat k))) 2) != 1 then K (Exit.normal) (mkF 167 [(5, .dat (.slc (Sh.agg [Sh.one, Sh.one, Sh.one, Sh.one, Sh.agg [Sh.one, Sh.one]]) now)), (6, .dat (.int .i64 th)), (11, .dat (.int .i64 hx)), (13, .dat (.int .i64 (IntKind.wrap IntKind.i64 (n + 1)))), (14, .dat (.int .i64 (IntKind.wrap IntKind.i64 (k + 1)))), (142, .dat (.int .i64 k)), (143, .dat (.int .i64 (IntKind.wrap IntKind.i64 (k + 1))))]) ([]) else K (Exit.normal) (mkF 167 [(5, .dat (.slc (Sh.agg [Sh.one, Sh.one, Sh.one, Sh.one, Sh.agg [Sh.one, Sh.one]]) now)), (6, .dat (.int .i64 th)), (11, .dat (.int .i64 hx)), (13, .dat (.int .i64 n)), (14, .dat (.int .i64 (IntKind.wrap IntKind.i64 (k + 1)))), (142, .dat (.int .i64 k)), (143, .dat (.int .i64 (IntKind.wrap IntKind.i64 (k + 1))))]) ([])) else none) else none) else none) else K (Exit.normal) (mkF 167 [(5, .dat (.slc (Sh.agg [Sh.one, Sh.one, Sh.one, Sh.one, Sh.agg [Sh.one, Sh.one]]) now)), (6, .dat (.int .i64 th)), (11, .dat (.int .i64 hx)), (13, .dat (.int .i64 n)), (14, .dat (.int .i64 (IntKind.wrap IntKind.i64 (k + 1)))), (142, .dat (.int .i64 k)), (143, .dat (.int .i64 (IntKind.wrap IntKind.i64 (k + 1))))]) ([])) else none) else none) else none) else K (Exit.exit 6) (mkF 167 [(6, .dat (.int .i64 th)), (11, .dat (.int .i64 hx)), (13, .dat (.int .i64 n))]) ([])) := by kernel_rfl
theorem sy_hr (lp : Loops) (now : List D) (th hx : Int) : ∀ (sA : (Int × Int)) (K : Kt) (N : (Int × Int) → Option Res), (∀ sB fr' σ', cleanF (liveAt Try.f5 3) 0 fr' = sy_fr now th hx sB → trim (0) (sy_fr now th hx sB) σ' = sy_st now th hx sB → K .normal fr' σ' = N sB) →
    oneRound (envOf tab SpS [] lp HQ) Try.f5 3 (0) (sy_fr now th hx sA) (sy_st now th hx sA) K = (sy_step now th hx sA).k (LK K N) := by
  intro sA K N hN
  obtain ⟨k, n⟩ := sA
  refine (sy_round lp now th hx k n K).trans ?_
  show _ = T.k ((
  .chk (!decide (k < (↑(List.length now) : Int)) || decide (0 ≤ k) && (decide (Int.toNat k < List.length now) && okE (Ek.agg [Ek.bool, Ek.str, Ek.int IntKind.i64, Ek.int IntKind.i64, Ek.agg [Ek.int IntKind.i64, Ek.int IntKind.i64]]) (nthD now (Int.toNat k)))) (
   .br (!decide (k < (↑(List.length now) : Int))) (.leaf (.inr ((some 6), mkF 167 [(6, .dat (.int .i64 th)), (11, .dat (.int .i64 hx)), (13, .dat (.int .i64 n))], []))) (.leaf (.inl ((IntKind.wrap IntKind.i64 (k + 1)), (bif D.getB (nthD (D.getL (nthD now (Int.toNat k))) 0) then bif D.getI (nthD (D.getL (nthD now (Int.toNat k))) 2) != 1 then IntKind.wrap IntKind.i64 (n + 1) else n else n)))))) : T ((Int × Int) ⊕ LOut)) (LK K N)
  generalize (okE (Ek.agg [Ek.bool, Ek.str, Ek.int IntKind.i64, Ek.int IntKind.i64, Ek.agg [Ek.int IntKind.i64, Ek.int IntKind.i64]]) (nthD now (Int.toNat k))) = z0
  generalize (D.getI (nthD (D.getL (nthD now (Int.toNat k))) 2) != 1) = z1
  generalize (decide (k < (↑(List.length now) : Int))) = z2
  generalize (decide (0 ≤ k)) = z3
  generalize (decide (Int.toNat k < List.length now)) = z4
  generalize (D.getB (nthD (D.getL (nthD now (Int.toNat k))) 0)) = z5
  cases z2 with
  | true =>
   cases z3 with
   | true =>
    cases z4 with
    | true =>
     cases z0 with
     | true =>
      cases z5 with
      | true =>
       cases z1 with
       | true =>
        exact hN _ _ _ (by kernel_rfl) (by kernel_rfl)
       | false =>
        exact hN _ _ _ (by kernel_rfl) (by kernel_rfl)
      | false =>
       exact hN _ _ _ (by kernel_rfl) (by kernel_rfl)
     | false =>
      rfl
    | false =>
     rfl
   | false =>
    rfl
  | false =>
   rfl
theorem sy_enter (now : List D) (th hx : Int) (k n : Int) (fr : Frame') (hl : Nat.beq fr.length 167 = true) (g5 : fr.getD 5 .undef = .dat (.slc (Sh.agg [Sh.one, Sh.one, Sh.one, Sh.one, Sh.agg [Sh.one, Sh.one]]) now)) (g6 : fr.getD 6 .undef = .dat (.int .i64 th)) (g11 : fr.getD 11 .undef = .dat (.int .i64 hx)) (g13 : fr.getD 13 .undef = .dat (.int .i64 n)) (g14 : fr.getD 14 .undef = .dat (.int .i64 k)) : cleanF (liveAt Try.f5 3) 0 fr = sy_fr now th hx (k, n) := by
  have e : liveAt Try.f5 3 = [5, 14, 11, 13, 6] := by kernel_rfl
  rw [clean_mk (Nat.eq_of_beq_eq_true hl), e]
  show mkF 167 [(5, fr.getD 5 .undef), (14, fr.getD 14 .undef), (11, fr.getD 11 .undef), (13, fr.getD 13 .undef), (6, fr.getD 6 .undef)] = _
  rw [g5, g14, g11, g13, g6]
  kernel_rfl


end Go.Proofs.Ytnegedbjcjfndaa
