/- Seat 20: AuditBack's outer loop, and its run. -/
import Derived.Test.YtdmmobjegfhneaaV
namespace Go.Proofs.Ytdmmobjegfhneaa
open Go.AX
set_option maxRecDepth 100000
set_option maxHeartbeats 2000000
theorem spr_eq {x : D} (h : okE k25 x = true) : spr x = x := by
  obtain ⟨a0, a1, a2, a3, a4, a5, a6, a7, a8, a9, rfl, h0, h1, h2, h3, h4, h5, h6, h7, h8, h9⟩ := okE_agg10 h
  obtain ⟨_, rfl⟩ := okE_int h0
  obtain ⟨_, rfl⟩ := okE_int h1
  obtain ⟨_, rfl⟩ := okE_int h2
  obtain ⟨_, rfl⟩ := okE_int h3
  obtain ⟨_, rfl⟩ := okE_int h4
  obtain ⟨_, rfl⟩ := okE_int h5
  obtain ⟨_, rfl⟩ := okE_int h6
  obtain ⟨_, rfl⟩ := okE_int h7
  obtain ⟨_, rfl⟩ := okE_int h8
  obtain ⟨_, rfl⟩ := okE_int h9
  rfl
def okU (x : D) : Bool := okEn x && u64 (en x 0)
def logS (l : List D) (m : Int) : Nat → List D
  | 0 => []
  | i + 1 => bif addE (logS l m i) m (nthD l i) != 0 then logS l m i else addL (logS l m i) m (nthD l i)
theorem add_zero {log : List D} {m : Int} {x : D} (h : addE log m x = 0) : rightD (log ++ [x]) = true ∧ ¬ m ≤ log.length ∧ addL log m x = log ++ [x] := by
  unfold addE at h
  unfold addL
  cases h1 : rightD (log ++ [x]) with
  | false => rw [h1, cond_false] at h; exact absurd h (by decide)
  | true =>
    rw [h1, cond_true] at h
    cases h2 : decide (m ≤ (log.length : Int)) with
    | true => rw [h2, cond_true] at h; exact absurd h (by decide)
    | false => exact ⟨rfl, of_decide_eq_false h2, rfl⟩
theorem logS_ok {l : List D} {m : Int} (h : l.all okU = true) : ∀ i : Nat, i ≤ l.length → (logS l m i).all okX = true ∧ rightD (logS l m i) = true ∧ (logS l m i).length ≤ i
  | 0, _ => ⟨rfl, rfl, Nat.le_refl 0⟩
  | i + 1, hi => by
    obtain ⟨g1, g2, g3⟩ := logS_ok (m := m) h i (by omega)
    rw [logS]
    cases ha : addE (logS l m i) m (nthD l i) != 0 with
    | true => exact ⟨g1, g2, by rw [cond_true]; omega⟩
    | false =>
      obtain ⟨q1, q2, q3⟩ := add_zero (show addE (logS l m i) m (nthD l i) = 0 by simpa using ha)
      rw [cond_false, q3]
      refine ⟨?_, q1, by rw [List.length_append, List.length_singleton]; omega⟩
      have hx := List.all_eq_true.1 h _ (nthD_mem (show i < l.length by omega))
      unfold okU at hx
      have hx := (Bool.and_eq_true _ _).mp hx
      rw [right_snoc] at q1
      have hm : mayD (nthD l i) = true := by
        simp only [Bool.and_eq_true] at q1; exact q1.2.1
      rw [List.all_append, g1, List.all_cons, okX, hx.1, hx.2, hm]; rfl
theorem okX_en {l : List D} (h : l.all okX = true) : l.all okEn = true := by
  rw [List.all_eq_true] at h ⊢
  intro d hd
  have := h d hd
  rw [okX, Bool.and_eq_true] at this
  exact this.1
abbrev boC (l : List D) : Bool := l.all okU
theorem bo_closed (l b : List D) (m : Int) (hc : boC l = true) :
    ∃ z, (iterT (bo_step l b m) z (0, [])).run = T.run (.leaf (some 0, mkF 130 [(2, .dat (.slc .one b)), (7, .dat (.slc s25 (logS l m (min l.length 60))))], [])) := by
  refine iter_range (n := min l.length 60) (fun i => logS l m i) (fun i hi => ?_) ?_
  · obtain ⟨g1, g2, g3⟩ := logS_ok (m := m) hc i (by omega)
    have hx := List.all_eq_true.1 hc _ (nthD_mem (show i < l.length by omega))
    unfold okU at hx
    have hx := (Bool.and_eq_true _ _).mp hx
    have hk := okEn_k hx.1
    have e0 : bo_t0 l i = nthD l i := spr_eq hk
    have e3 : bo_t3 l i = D.getL (nthD l i) := rfl
    have hA : okA (logS l m i) (nthD l i) = true := by rw [okA, okX_en g1, decide_eq_true (show (logS l m i).length ≤ 100000000000 by omega), hx.1]; rfl
    have hw : IntKind.wrap .i64 (((logS l m i).length : Int) + 1) = (((logS l m i).length + 1 : Nat) : Int) := wrap_succ (by omega)
    unfold bo_step
    simp only [bo_t4, bo_t5, bo_t2, bo_t1, Int.toNat_natCast, e0, e3, hA, hk, decide_eq_true (show (i : Int) < (l.length : Int) by omega), decide_eq_true (show (i : Int) < 60 by omega), decide_eq_true (show (0 : Int) ≤ (i : Int) by omega), decide_eq_true (show i < l.length by omega), hw, wrap_succ (show i < 2 ^ 62 by omega), Bool.not_true, Bool.false_or, Bool.true_and, T.run_br, T.run_chk, T.run_leaf]
    rw [logS]
    cases ha : addE (logS l m i) m (nthD l i) != 0 with
    | true => rfl
    | false =>
      obtain ⟨q1, q2, q3⟩ := add_zero (show addE (logS l m i) m (nthD l i) = 0 by simpa using ha)
      have hn : nthD (logS l m i ++ [nthD l i]) (logS l m i).length = nthD l i := nthD_append_len _ _
      have hb : bkC (logS l m i) (logS l m i ++ [nthD l i]) = true := by
        rw [bkC, List.take_left' rfl, D.eqbL_self, okX_k g1, decide_eq_true (show (logS l m i).length ≤ 1000 by omega)]; rfl
      simp only [q3, hn, hk, hb, List.length_append, List.length_singleton, beq_self_eq_true, bne_self_eq_false, decide_eq_true (show (logS l m i).length < (logS l m i).length + 1 by omega), decide_eq_false (show ¬ m < (((logS l m i).length + 1 : Nat) : Int) by omega), Bool.not_false, Bool.and_true, cond_true, cond_false, Bool.false_or]
  · unfold bo_step
    have : (!decide (((min l.length 60 : Nat) : Int) < (l.length : Int)) || !decide (((min l.length 60 : Nat) : Int) < 60)) = true := by
      rcases (by omega : min l.length 60 = l.length ∨ min l.length 60 = 60) with e | e <;> rw [e] <;> simp
    simp only [T.run_chk, T.run_br, this, cond_true]
    rcases (by omega : min l.length 60 = l.length ∨ min l.length 60 = 60) with e | e
    · rw [decide_eq_false (show ¬ ((min l.length 60 : Nat) : Int) < (l.length : Int) by omega)]; rfl
    · rw [decide_eq_false (show ¬ ((min l.length 60 : Nat) : Int) < 60 by omega)]
      cases decide (((min l.length 60 : Nat) : Int) < (l.length : Int)) <;> rfl
def L_bo : Frame' → Store → T (Exit × Frame' × Store) := fun fr σ => match fr.getD 0 .undef, fr.getD 1 .undef, fr.getD 2 .undef, fr.getD 7 .undef, fr.getD 8 .undef, σ with
  | AV.dat (D.slc (Sh.agg [Sh.one, Sh.one, Sh.one, Sh.one, Sh.one, Sh.one, Sh.one, Sh.one, Sh.one, Sh.one]) l), AV.dat (D.int IntKind.i64 m), AV.dat (D.slc Sh.one b), AV.dat (D.slc (Sh.agg [Sh.one, Sh.one, Sh.one, Sh.one, Sh.one, Sh.one, Sh.one, Sh.one, Sh.one, Sh.one]) []), AV.dat (D.int IntKind.i64 0), [] => .chk (Nat.beq fr.length 130 && (boC l)) (T.bind (.leaf (some 0, mkF 130 [(2, .dat (.slc .one b)), (7, .dat (.slc s25 (logS l m (min l.length 60))))], [])) fun o => .leaf (outEx o.1, o.2.1, o.2.2))
  | _, _, _, _, _, _ => .fail
theorem bo_sem (lp : Loops) : ∀ fr σ p, (L_bo fr σ).run = some p → ∀ (K : Kt) r, K p.1 p.2.1 p.2.2 = some r → ∃ n, loopRun (envOf tab SpT [] ((10, L_bk) :: lp) HT) Try.f5 0 σ.length n (cleanF (liveAt Try.f5 0) 0 fr) σ K = some r := by
  intro fr σ p h K r hK
  unfold L_bo at h
  split at h
  · rename_i l m b g0 g1 g2 g7 g8
    obtain ⟨hc, h'⟩ := T.chk_some h
    rw [Bool.and_eq_true] at hc
    obtain ⟨hl, hc⟩ := hc
    obtain ⟨o, ho, h'⟩ := T.bind_some h'
    have hp := T.leaf_some h'
    subst hp
    obtain ⟨nF, hn⟩ : ∃ nF, (iterT (bo_step l b m) nF ((0, []))).run = T.run (.leaf (some 0, mkF 130 [(2, .dat (.slc .one b)), (7, .dat (.slc s25 (logS l m (min l.length 60))))], [])) := bo_closed l b m hc
    rw [ho] at hn
    refine ⟨nF, ?_⟩
    have he : cleanF (liveAt Try.f5 0) 0 fr = bo_fr l b m ((0, [])) := bo_enter l b m _ _ fr hl g0 g1 g2 g7 g8
    refine (iter_ok (base := 0) (bo_hr lp l b m) K nF ((0, [])) _ _ (by rw [clean_clean]; exact he) (by kernel_rfl)).trans ?_
    rw [T.k_run hn]
    exact hK
  · simp [T.run_fail] at h
theorem bo_loopOk {k : Nat} (lp : Loops) (hk : Loops.get lp 3 = some L_bo) : LoopOkN Try.prog k (envOf tab SpT [] ((10, L_bk) :: lp) HT) (loopAt Try.f5 0).1 (loopAt Try.f5 0).2 := loop_okN (L := L_bo) (by kernel_rfl) hk (bo_sem lp)
theorem LT_ok : ∀ x ∈ fnLoops Try.f5, LoopOk Try.prog (envOf tab SpT [] [(10, L_bk), (3, L_bo), (16, L_br)] HT) x.1 x.2 := loops_all 3 (by kernel_rfl) fun i hi => match i, hi with
  | 0, _ => bo_loopOk _ rfl
  | 1, _ => bk_loopOk _ rfl
  | 2, _ => br_loopOk _ rfl
def bb_t0 (b : List D) : D := .agg [D.int IntKind.u64 (reF b 0 8), D.int .i64 (reF b 8 1), D.int .i64 (reF b 9 1), D.int .i64 (reF b 10 1), D.int .i64 (reF b 11 1), D.int .i64 (reF b 12 1), D.int .i64 (reF b 13 1), D.int IntKind.u64 (reF b 14 8), D.int IntKind.u64 (reF b 22 8), D.int .i64 (reF b 30 1)]
def bb_t1 (b : List D) := D.agg [D.int IntKind.u64 (reF b 0 8), D.int .i64 (reF b 8 1), D.int .i64 (reF b 9 1), D.int .i64 (reF b 10 1), D.int .i64 (reF b 11 1), D.int .i64 (reF b 12 1), D.int .i64 (reF b 13 1), D.int IntKind.u64 (reF b 14 8), D.int IntKind.u64 (reF b 22 8), D.int .i64 (reF b 30 1)]
def bb_t2 (b : List D) := byD (reF b 0 8) (reF b 8 1) (reF b 9 1) (reF b 10 1) (reF b 11 1) (reF b 12 1) (reF b 13 1) (reF b 14 8) (reF b 22 8) (reF b 30 1)
def bb_t3 (b : List D) : Store := [{ sh := s25, dyn := false, frz := false, v := .dat (bb_t0 b) }]
def bb_t4 (l : List D) (m : Int) := logS l m (min (List.length l) 60)
def bb_t5 (l : List D) (b : List D) (m : Int) := mkF 130 [(2, .dat (.slc Sh.one b)), (7, .dat (.slc (s25) (bb_t4 l m))), (15, AV.ptr (s25) 0 0 []), (16, .dat (.int .i64 (reR b))), (104, AV.tup [.dat (bb_t0 b), .dat (.int .i64 (reR b))]), (105, .dat (.slc Sh.one b)), (106, AV.tup [.dat (bb_t0 b), .dat (.int .i64 (reR b))]), (107, .dat (bb_t0 b)), (108, .dat (.int .i64 (reR b)))]
def bb_t6 (b : List D) := may_v0 (reF b 0 8) (reF b 8 1) (reF b 9 1) (reF b 10 1) (reF b 11 1) (reF b 12 1) (reF b 13 1) (reF b 14 8) (reF b 22 8) (reF b 30 1)
abbrev bb_E : Env := envOf tab SpT [] [(10, L_bk), (3, L_bo), (16, L_br)] HT
def bb_F0 (l b : List D) (m : Int) : Frame' := mkF 130 [(0, .dat (.slc (s25) l)), (1, .dat (.int .i64 m)), (2, .dat (.slc Sh.one b))]
def bb_T0 (_l _b : List D) (_m : Int) : Store := []
theorem bb_start (l b : List D) (m : Int) : runF (envOf tab SpT [] [(10, L_bk), (3, L_bo), (16, L_br)] HT) true Try.f5 [.dat (.slc s25 l), .dat (.int .i64 m), .dat (.slc .one b)] [] = ex (Env.rebase (bb_E) 0) [6] (sqR 0 (bodyOf Try.f5)) [] [6] (bb_F0 l b m) (bb_T0 l b m) (finK (bb_E) true Try.f5 (callFin [] [])) := run_start (ρ := []) (args' := [.dat (.slc (s25) l), .dat (.int .i64 m), .dat (.slc Sh.one b)]) (by kernel_rfl) (by kernel_rfl) (by kernel_rfl) (by kernel_rfl) (by kernel_rfl) (by kernel_rfl) (by kernel_rfl) (by kernel_rfl) (by kernel_rfl)
theorem bb_q0 (l b : List D) (m : Int) (K : Kt) : ex (Env.rebase (bb_E) 0) [6] (sqA (sqR 0 (bodyOf Try.f5))) [] [1, 0, 2] (bb_F0 l b m) (bb_T0 l b m) K = K .normal (mkF 130 [(0, .dat (.slc (s25) l)), (1, .dat (.int .i64 m)), (2, .dat (.slc Sh.one b)), (6, .dat (.bool false))]) ([]) := by kernel_rfl
def bb_F1 (l b : List D) (m : Int) : Frame' := mkF 130 [(0, .dat (.slc (s25) l)), (1, .dat (.int .i64 m)), (2, .dat (.slc Sh.one b)), (6, .dat (.bool false))]
def bb_T1 (_l _b : List D) (_m : Int) : Store := []
theorem bb_s0 (l b : List D) (m : Int) (K : Kt) : ex (Env.rebase (bb_E) 0) [6] (sqR 0 (bodyOf Try.f5)) [] [6] (bb_F0 l b m) (bb_T0 l b m) K = ex (Env.rebase (bb_E) 0) [6] (sqR 1 (bodyOf Try.f5)) [] [6] (bb_F1 l b m) (bb_T1 l b m) K := (seg_str (c := (sqR 0 (bodyOf Try.f5))) (a := sqA (sqR 0 (bodyOf Try.f5))) (b := (sqR 1 (bodyOf Try.f5))) (by kernel_rfl) (by kernel_rfl) (by kernel_rfl) (bb_q0 l b m) K).trans (seqK_normal (by kernel_rfl) (by kernel_rfl))
theorem bb_q1 (l b : List D) (m : Int) (K : Kt) : ex (Env.rebase (bb_E) 0) [6] (sqA (sqR 1 (bodyOf Try.f5))) [] [1, 0, 7, 2] (bb_F1 l b m) (bb_T1 l b m) K = K .normal (mkF 130 [(0, .dat (.slc (s25) l)), (1, .dat (.int .i64 m)), (2, .dat (.slc Sh.one b)), (6, .dat (.bool false)), (7, AV.fslc (s25) [])]) ([]) := by kernel_rfl
def bb_F2 (l b : List D) (m : Int) : Frame' := mkF 130 [(0, .dat (.slc (s25) l)), (1, .dat (.int .i64 m)), (2, .dat (.slc Sh.one b)), (6, .dat (.bool false)), (7, AV.fslc (s25) [])]
def bb_T2 (_l _b : List D) (_m : Int) : Store := []
theorem bb_s1 (l b : List D) (m : Int) (K : Kt) : ex (Env.rebase (bb_E) 0) [6] (sqR 1 (bodyOf Try.f5)) [] [6] (bb_F1 l b m) (bb_T1 l b m) K = ex (Env.rebase (bb_E) 0) [6] (sqR 2 (bodyOf Try.f5)) [] [6] (bb_F2 l b m) (bb_T2 l b m) K := (seg_str (c := (sqR 1 (bodyOf Try.f5))) (a := sqA (sqR 1 (bodyOf Try.f5))) (b := (sqR 2 (bodyOf Try.f5))) (by kernel_rfl) (by kernel_rfl) (by kernel_rfl) (bb_q1 l b m) K).trans (seqK_normal (by kernel_rfl) (by kernel_rfl))
theorem bb_r2 (l b : List D) (m : Int) (J : List AV → Store → Option Res) (K : Kt) : ex (Env.rebase (bb_E) 0) [6] (sqA (sqR 2 (bodyOf Try.f5))) [] [7, 2] (bb_F2 l b m) (bb_T2 l b m) (jK [7] J K) = (cond (boC l) (J ([.dat (.slc (s25) (bb_t4 l m))]) ([])) (none)) := by kernel_rfl
theorem bb_q2 (l b : List D) (m : Int) (J : List AV → Store → Option Res) (K : Kt) : ex (Env.rebase (bb_E) 0) [6] (sqA (sqR 2 (bodyOf Try.f5))) [] [7, 2] (bb_F2 l b m) (bb_T2 l b m) (jK [7] J K) = (cond (boC l) (J ([.dat (.slc (s25) (bb_t4 l m))]) ([])) none) := (bb_r2 l b m J K).trans (by
  generalize (boC l) = z0
  cases z0 with
  | true =>
   rfl
  | false =>
   rfl
  )
def bb_F3 (l b : List D) (m : Int) : Frame' := mkF 130 [(0, .dat (.slc (s25) l)), (1, .dat (.int .i64 m)), (2, .dat (.slc Sh.one b)), (7, .dat (.slc (s25) (bb_t4 l m)))]
def bb_T3 (_l _b : List D) (_m : Int) : Store := []
def bb_p2 (l : List D) : Bool := boC l
theorem bb_s2 (l b : List D) (m : Int) (K : Kt) : ex (Env.rebase (bb_E) 0) [6] (sqR 2 (bodyOf Try.f5)) [] [6] (bb_F2 l b m) (bb_T2 l b m) K = (cond (bb_p2 l) (ex (Env.rebase (bb_E) 0) [6] (sqR 3 (bodyOf Try.f5)) [] [6] (bb_F3 l b m) (bb_T3 l b m) K) none) := (seg_join (c := (sqR 2 (bodyOf Try.f5))) (a := sqA (sqR 2 (bodyOf Try.f5))) (b := (sqR 3 (bodyOf Try.f5))) (ds := [17, 18, 19, 20, 21, 22, 23, 24, 28, 29, 30, 31, 32, 33, 34, 27, 35, 36, 9, 10, 37, 38, 39, 40, 41, 42, 43, 44, 45, 46, 47, 48, 49, 50, 51, 52, 53, 54, 55, 56, 57, 58, 59, 60, 61, 62, 63, 64, 65, 66, 69, 70, 71, 72, 73, 74, 75, 76, 77, 6, 67, 68, 11, 78, 7, 25, 26, 8]) (by kernel_rfl) (by kernel_rfl) (by kernel_rfl) (by kernel_rfl) (by kernel_rfl) (by kernel_rfl) (bb_q2 l b m) K).trans (condC (ex_same (by kernel_rfl) (by kernel_rfl)))
theorem bb_r3 (l b : List D) (m : Int) (J : List AV → Store → Option Res) (K : Kt) : ex (Env.rebase (bb_E) 0) [6] (sqA (sqR 3 (bodyOf Try.f5))) [] [7, 2] (bb_F3 l b m) (bb_T3 l b m) (jK [] J K) = (cond (brC (bb_t4 l m)) (J ([]) ([])) (none)) := by kernel_rfl
theorem bb_q3 (l b : List D) (m : Int) (J : List AV → Store → Option Res) (K : Kt) : ex (Env.rebase (bb_E) 0) [6] (sqA (sqR 3 (bodyOf Try.f5))) [] [7, 2] (bb_F3 l b m) (bb_T3 l b m) (jK [] J K) = (cond (brC (bb_t4 l m)) (J ([]) ([])) none) := (bb_r3 l b m J K).trans (by
  generalize (brC (bb_t4 l m)) = z0
  cases z0 with
  | true =>
   rfl
  | false =>
   rfl
  )
def bb_F4 (l b : List D) (m : Int) : Frame' := mkF 130 [(0, .dat (.slc (s25) l)), (1, .dat (.int .i64 m)), (2, .dat (.slc Sh.one b)), (7, .dat (.slc (s25) (bb_t4 l m)))]
def bb_T4 (_l _b : List D) (_m : Int) : Store := []
def bb_p3 (l : List D) (m : Int) : Bool := brC (bb_t4 l m)
theorem bb_s3 (l b : List D) (m : Int) (K : Kt) : ex (Env.rebase (bb_E) 0) [6] (sqR 3 (bodyOf Try.f5)) [] [6] (bb_F3 l b m) (bb_T3 l b m) K = (cond (bb_p3 l m) (ex (Env.rebase (bb_E) 0) [6] (sqR 4 (bodyOf Try.f5)) [] [6] (bb_F4 l b m) (bb_T4 l b m) K) none) := (seg_join (c := (sqR 3 (bodyOf Try.f5))) (a := sqA (sqR 3 (bodyOf Try.f5))) (b := (sqR 4 (bodyOf Try.f5))) (ds := [79, 80, 81, 82, 86, 87, 88, 89, 90, 91, 85, 92, 93, 13, 14, 94, 95, 96, 97, 98, 99, 100, 101, 102, 103, 6, 83, 84, 12]) (by kernel_rfl) (by kernel_rfl) (by kernel_rfl) (by kernel_rfl) (by kernel_rfl) (by kernel_rfl) (bb_q3 l b m) K).trans (condC (ex_same (by kernel_rfl) (by kernel_rfl)))
theorem bb_r4 (l b : List D) (m : Int) (K : Kt) : ex (Env.rebase (bb_E) 0) [6] (sqA (sqR 4 (bodyOf Try.f5))) [] [7, 16, 15, 2] (bb_F4 l b m) (bb_T4 l b m) K = (cond (okB b) (K .normal (bb_t5 l b m) (bb_t3 b)) (none)) := by kernel_rfl
theorem bb_q4 (l b : List D) (m : Int) (K : Kt) : ex (Env.rebase (bb_E) 0) [6] (sqA (sqR 4 (bodyOf Try.f5))) [] [7, 16, 15, 2] (bb_F4 l b m) (bb_T4 l b m) K = (cond (okB b) (K .normal (bb_t5 l b m) (bb_t3 b)) none) := (bb_r4 l b m K).trans (by
  generalize (okB b) = z0
  cases z0 with
  | true =>
   rfl
  | false =>
   rfl
  )
def bb_F5 (l b : List D) (m : Int) : Frame' := (bb_t5 l b m)
def bb_T5 (_l b : List D) (_m : Int) : Store := [{ sh := s25, dyn := false, frz := false, v := .dat (bb_t0 b) }]
def bb_p4 (b : List D) : Bool := okB b
theorem bb_s4 (l b : List D) (m : Int) (K : Kt) : ex (Env.rebase (bb_E) 0) [6] (sqR 4 (bodyOf Try.f5)) [] [6] (bb_F4 l b m) (bb_T4 l b m) K = (cond (bb_p4 b) (ex (Env.rebase (bb_E) 0) [6] (sqR 5 (bodyOf Try.f5)) [] [6] (bb_F5 l b m) (bb_T5 l b m) K) none) := (seg_str (c := (sqR 4 (bodyOf Try.f5))) (a := sqA (sqR 4 (bodyOf Try.f5))) (b := (sqR 5 (bodyOf Try.f5))) (by kernel_rfl) (by kernel_rfl) (by kernel_rfl) (bb_q4 l b m) K).trans (condC (seqK_normal (by kernel_rfl) (by kernel_rfl)))
theorem bb_r5 (l b : List D) (m : Int) (J : List AV → Store → Option Res) (K : Kt) : ex (Env.rebase (bb_E) 1) [6] (sqA (sqR 5 (bodyOf Try.f5))) [] [6] (bb_F5 l b m) (bb_T5 l b m) (jK [6] J K) = (cond (rg_pre (bb_t4 l m)) ((cond (D.eqb (D.bool (rg_v0 (bb_t4 l m))) (D.bool true)) ((cond (reR b != 0) (J ([.dat (.bool true)]) (bb_t3 b)) ((cond (bb_t6 b) ((cond (okEn (bb_t1 b) && u64 (reF b 0 8)) ((cond (isBytes (bb_t2 b)) ((cond (isBytes b) (J ([.dat (.bool (decide (byteVs (bb_t2 b) = byteVs b)))]) (bb_t3 b)) (none))) (none))) (none))) (J ([.dat (.bool false)]) (bb_t3 b)))))) (none))) (none)) := by kernel_rfl
theorem bb_q5 (l b : List D) (m : Int) (J : List AV → Store → Option Res) (K : Kt) : ex (Env.rebase (bb_E) 1) [6] (sqA (sqR 5 (bodyOf Try.f5))) [] [6] (bb_F5 l b m) (bb_T5 l b m) (jK [6] J K) = (cond (rg_pre (bb_t4 l m) && (rg_v0 (bb_t4 l m) && (reR b != 0 || (!(bb_t6 b) || okEn (bb_t1 b) && u64 (reF b 0 8) && (isBytes (bb_t2 b) && isBytes b))))) (J ([.dat (.bool (reR b != 0 || (bb_t6 b) && decide (byteVs (bb_t2 b) = byteVs b)))]) (bb_t3 b)) none) := (bb_r5 l b m J K).trans (by
  generalize (okEn (bb_t1 b) && u64 (reF b 0 8)) = z0
  generalize (isBytes (bb_t2 b)) = z1
  generalize (bb_t6 b) = z2
  generalize (rg_pre (bb_t4 l m)) = z3
  generalize (rg_v0 (bb_t4 l m)) = z4
  generalize (reR b != 0) = z5
  generalize (isBytes b) = z6
  cases z3 with
  | true =>
   cases z4 with
   | true =>
    cases z5 with
    | true =>
     rfl
    | false =>
     cases z2 with
     | true =>
      cases z0 with
      | true =>
       cases z1 with
       | true =>
        cases z6 with
        | true =>
         rfl
        | false =>
         rfl
       | false =>
        rfl
      | false =>
       rfl
     | false =>
      rfl
   | false =>
    rfl
  | false =>
   rfl
  )
def bb_w5v0 (b : List D) : Bool := reR b != 0 || (bb_t6 b) && decide (byteVs (bb_t2 b) = byteVs b)
def bb_F6 (l b : List D) (m : Int) : Frame' := mkF 130 [(2, .dat (.slc Sh.one b)), (6, .dat (.bool (bb_w5v0 b))), (7, .dat (.slc (s25) (bb_t4 l m))), (15, AV.ptr (s25) 0 0 []), (16, .dat (.int .i64 (reR b))), (104, AV.tup [.dat (bb_t0 b), .dat (.int .i64 (reR b))]), (105, .dat (.slc Sh.one b)), (106, AV.tup [.dat (bb_t0 b), .dat (.int .i64 (reR b))]), (107, .dat (bb_t0 b)), (108, .dat (.int .i64 (reR b)))]
def bb_T6 (_l b : List D) (_m : Int) : Store := [{ sh := s25, dyn := false, frz := false, v := .dat (bb_t0 b) }]
def bb_p5 (l : List D) (b : List D) (m : Int) : Bool := rg_pre (bb_t4 l m) && (rg_v0 (bb_t4 l m) && (reR b != 0 || (!(bb_t6 b) || okEn (bb_t1 b) && u64 (reF b 0 8) && (isBytes (bb_t2 b) && isBytes b))))
theorem bb_s5 (l b : List D) (m : Int) (K : Kt) : ex (Env.rebase (bb_E) 0) [6] (sqR 5 (bodyOf Try.f5)) [] [6] (bb_F5 l b m) (bb_T5 l b m) K = (cond (bb_p5 l b m) (ex (Env.rebase (bb_E) 0) [6] (sqR 6 (bodyOf Try.f5)) [] [6] (bb_F6 l b m) (bb_T6 l b m) K) none) := (seg_join (c := (sqR 5 (bodyOf Try.f5))) (a := sqA (sqR 5 (bodyOf Try.f5))) (b := (sqR 6 (bodyOf Try.f5))) (ds := [109, 110, 111, 112, 113, 114, 115, 116, 117, 118, 119, 120, 121, 122, 123, 124, 125, 126, 127, 128, 129, 6]) (by kernel_rfl) (by kernel_rfl) (by kernel_rfl) (by kernel_rfl) (by kernel_rfl) (by kernel_rfl) (bb_q5 l b m) K).trans (condC (ex_same (by kernel_rfl) (by kernel_rfl)))
theorem bb_q6 (l b : List D) (m : Int) (K : Kt) : ex (Env.rebase (bb_E) 0) [6] (sqR 6 (bodyOf Try.f5)) [] [6] (bb_F6 l b m) (bb_T6 l b m) K = K (Exit.ret) (mkF 130 [(6, .dat (.bool (bb_w5v0 b)))]) (bb_t3 b) := by kernel_rfl
theorem bb_s6 (l b : List D) (m : Int) (K : Kt) : ex (Env.rebase (bb_E) 0) [6] (sqR 6 (bodyOf Try.f5)) [] [6] (bb_F6 l b m) (bb_T6 l b m) K = K (Exit.ret) (mkF 130 [(6, .dat (.bool (bb_w5v0 b)))]) (bb_t3 b) := (bb_q6 l b m K).trans rfl
theorem bb_e6_0 (_l b : List D) (_m : Int) : (finK (bb_E) true Try.f5 (callFin [] [])) (Exit.ret) (mkF 130 [(6, .dat (.bool (bb_w5v0 b)))]) (bb_t3 b) = some (([.dat (.bool (bb_w5v0 b))], []) : Res) := by kernel_rfl
def C_bb : FunT := fun args σ => match args, σ with
  | [AV.dat (D.slc (Sh.agg [Sh.one, Sh.one, Sh.one, Sh.one, Sh.one, Sh.one, Sh.one, Sh.one, Sh.one, Sh.one]) l), AV.dat (D.int IntKind.i64 m), AV.dat (D.slc Sh.one b)], [] => .chk (bb_p2 l) (.chk (bb_p3 l m) (.chk (bb_p4 b) (.chk (bb_p5 l b m) (.leaf ([AV.dat (D.bool (bb_w5v0 b))], [])))))
  | _, _ => .fail
theorem bb_case0 (l b : List D) (m : Int) : runF (envOf tab SpT [] [(10, L_bk), (3, L_bo), (16, L_br)] HT) true Try.f5 [.dat (.slc s25 l), .dat (.int .i64 m), .dat (.slc .one b)] [] = FunT.run C_bb [.dat (.slc s25 l), .dat (.int .i64 m), .dat (.slc .one b)] [] := ((bb_start l b m).trans ((bb_s0 l b m _).trans ((bb_s1 l b m _).trans ((bb_s2 l b m _).trans (condC ((bb_s3 l b m _).trans (condC ((bb_s4 l b m _).trans (condC ((bb_s5 l b m _).trans (condC ((bb_s6 l b m _).trans (bb_e6_0 l b m))))))))))))).trans (by kernel_rfl)
theorem cbb_ok : FunOk Try.prog 5 (FunT.run C_bb) := by
  refine fun_ok (E := bb_E) (fz := true) (fn := Try.f5) (envOf_ok progOk SpT_ok) (by kernel_rfl) (by kernel_rfl) LT_ok ?_
  intro args σ r h
  unfold C_bb at h
  split at h
  · exact (bb_case0 _ _ _).trans h
  · simp [T.run_fail] at h
end Go.Proofs.Ytdmmobjegfhneaa
