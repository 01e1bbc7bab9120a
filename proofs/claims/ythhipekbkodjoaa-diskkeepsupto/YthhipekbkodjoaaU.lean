/- Seat 07: DiskFuse's loop, closed. -/
import Derived.Test.YthhipekbkodjoaaT
namespace Go.Proofs.Ythhipekbkodjoaa
open Go.AX
set_option maxRecDepth 100000
theorem able3 (u : Bool) : able_v0 3 0 u = bif u then 15 else 0 := by cases u <;> rfl
theorem wr3 (ws : List D) (f : Int) (u : Bool) : write_pre 3 ws (fillZ 1) 3 u = true ∧ write_v1 3 ws (fillZ 1) 3 u = ws ∧ write_v2 3 (fillZ 1) f 3 u = f ∧ write_v3 3 (fillZ 1) f 3 u = u ∧ (write_v0 3 (fillZ 1) f 3 u == 0) = false := by
  cases u <;> exact ⟨rfl, rfl, rfl, rfl, rfl⟩
theorem wr0 (ws : List D) (f : Int) (u : Bool) : write_pre 3 ws [] 0 u = true ∧ write_v1 3 ws [] 0 u = ws ∧ write_v2 3 [] f 0 u = f ∧ write_v3 3 [] f 0 u = u ∧ (write_v0 3 [] f 0 u == 0) = false := by
  cases u <;> exact ⟨rfl, rfl, rfl, rfl, rfl⟩
theorem wr1 (c f : Int) (u : Bool) : write_v2 3 (fillZ c) f 0 u = (bif u then f else burns_v1 f) ∧ write_v3 3 (fillZ c) f 0 u = (bif u then u else burns_v2 f u) ∧ write_v0 3 (fillZ c) f 0 u = (bif u then 15 else bif burns_v0 f then 15 else 0) := by
  unfold write_v2 write_v3 write_v0
  rw [able3, fillZ_len]
  cases u <;> exact ⟨rfl, rfl, rfl⟩
def fuN (fl : List D) (i : Nat) (a : A) : A :=
  bif decide (i < fl.length) && D.getB (nthD fl i) then (flW 3 a.1 a.2.2.1 a.2.2.2, flS 3 a.1 a.2.1 a.2.2.1 a.2.2.2, flF 3 a.2.2.1 a.2.2.2, flU 3 a.2.2.1 a.2.2.2)
  else (write_v1 3 a.1 (fillZ (IntKind.wrap .u8 (i : Int))) 0 a.2.2.2, a.2.1, write_v2 3 (fillZ (IntKind.wrap .u8 (i : Int))) a.2.2.1 0 a.2.2.2, write_v3 3 (fillZ (IntKind.wrap .u8 (i : Int))) a.2.2.1 0 a.2.2.2)
def fuA (fl : List D) (a : A) : Nat → A
  | 0 => a
  | i + 1 => fuN fl i (fuA fl a i)
theorem fuA_zero (fl : List D) (a : A) : fuA fl a 0 = a := rfl
theorem fuA_ok {j : Nat} {fl : List D} {a : A} (h : OkA 3 j a.1 a.2.1) : ∀ i, j + i ≤ 1000 → OkA 3 (j + i) (fuA fl a i).1 (fuA fl a i).2.1
  | 0, _ => h
  | i + 1, hj => by
    have ih := fuA_ok (fl := fl) h i (by omega)
    rw [fuA]
    generalize fuA fl a i = b at *
    unfold fuN
    cases decide (i < fl.length) && D.getB (nthD fl i) with
    | true => exact (op_flush ih b.2.2.1 b.2.2.2).2.2.2.2.2.2.2.le (by omega) hj
    | false => exact (op_write ih (by omega) (fillZ_bytes _) b.2.2.1 0 b.2.2.2).2.2.2.2.2.2.2
theorem fuN_fu (fl : List D) (i : Nat) (a : A) : (fuN fl i a).2.2.1 = (bif a.2.2.2 then a.2.2.1 else burns_v1 a.2.2.1) ∧ (fuN fl i a).2.2.2 = (bif a.2.2.2 then a.2.2.2 else burns_v2 a.2.2.1 a.2.2.2) := by
  unfold fuN
  obtain ⟨h1, h2, h3⟩ := wr1 (IntKind.wrap .u8 (i : Int)) a.2.2.1 a.2.2.2
  cases decide (i < fl.length) && D.getB (nthD fl i) with
  | true =>
    simp only [cond_true]
    unfold flF flU
    rw [able3]
    cases a.2.2.2 <;> exact ⟨rfl, rfl⟩
  | false => exact ⟨h1, h2⟩
theorem fuA_fu {n : Int} {fl : List D} {a : A} (h0 : 0 ≤ n) (h1 : n ≤ 255) (hf : a.2.2.1 = n) (hu : a.2.2.2 = false) : ∀ i : Nat, (fuA fl a i).2.2.1 = (if (i : Int) ≤ n then n - i else -1) ∧ (fuA fl a i).2.2.2 = decide (n < (i : Int))
  | 0 => by
    rw [fuA, hf, hu, if_pos (by omega), decide_eq_false (by omega)]
    exact ⟨by omega, rfl⟩
  | i + 1 => by
    obtain ⟨g1, g2⟩ := fuA_fu (fl := fl) h0 h1 hf hu i
    obtain ⟨e1, e2⟩ := fuN_fu fl i (fuA fl a i)
    rw [fuA, e1, e2, g1, g2]
    by_cases c1 : n < (i : Int)
    · rw [decide_eq_true c1, if_neg (by omega), if_neg (by omega), decide_eq_true (by omega)]; exact ⟨rfl, rfl⟩
    · rw [decide_eq_false c1, if_pos (by omega)]
      unfold burns_v1 burns_v2
      rw [decide_eq_false (show ¬ n - (i : Int) < 0 by omega)]
      have hw : IntKind.wrap .i64 (n - (i : Int) - 1) = n - (i : Int) - 1 := by rw [IntKind.wrap_i64]; omega
      rw [cond_false, cond_false, cond_false, cond_false, hw]
      by_cases c2 : (i : Int) = n
      · rw [if_neg (by omega), decide_eq_true (by omega)]
        exact ⟨by omega, by rw [show n - (i : Int) = 0 by omega]; rfl⟩
      · rw [if_pos (by omega), decide_eq_false (by omega)]
        exact ⟨by omega, by rw [beq_eq_false_iff_ne]; omega⟩
abbrev fuC (m k : Nat) (n : Int) (fl ws sf : List D) (f : Int) (u : Bool) : Bool := Nat.beq m 3 && Nat.beq k 3 && decide (0 ≤ n) && decide (n ≤ 255) && fl.all (okE .bool) && okAB 3 0 ws sf && (f == n) && !u
theorem fu_closed (m k : Nat) (n : Int) (fl ws sf : List D) (f : Int) (u : Bool) (hc : fuC m k n fl ws sf f u = true) :
    ∃ z, (iterT (fu_step m k n fl) z (0, 0, ws, sf, f, u)).run = T.run (.leaf (some 0, mkF 104 [(0, .dat (.int .u8 n)), (5, dP), (7, .dat (.int .i64 n))], [dB 3 3 (fuA fl (ws, sf, f, u) (n.toNat + 3)).1 (-1) true, sB (fuA fl (ws, sf, f, u) (n.toNat + 3)).2.1])) := by
  simp only [fuC, Bool.and_eq_true, okAB_iff, decide_eq_true_eq, beq_iff_eq, Nat.beq_eq, Bool.not_eq_true'] at hc
  obtain ⟨⟨⟨⟨⟨⟨⟨rfl, rfl⟩, hn0⟩, hn1⟩, hfl⟩, h⟩, rfl⟩, rfl⟩ := hc
  have hwn : IntKind.wrap .i64 (IntKind.wrap .i64 f + 3) = f + 3 := by rw [IntKind.wrap_i64, IntKind.wrap_i64]; omega
  have key := iter_range (step := fu_step 3 3 f fl) (n := f.toNat + 3) (o := (some 0, mkF 104 [(0, .dat (.int .u8 f)), (5, dP), (7, .dat (.int .i64 f))], [dB 3 3 (fuA fl (ws, sf, f, false) (f.toNat + 3)).1 (-1) true, sB (fuA fl (ws, sf, f, false) (f.toNat + 3)).2.1])) (fun i => ((if (i : Int) ≤ f then (i : Int) else f), (fuA fl (ws, sf, f, false) i).1, (fuA fl (ws, sf, f, false) i).2.1, (fuA fl (ws, sf, f, false) i).2.2.1, (fuA fl (ws, sf, f, false) i).2.2.2)) (fun i hi => ?_) ?_
  · obtain ⟨z, hz⟩ := key
    have e0 : (if ((0 : Nat) : Int) ≤ f then ((0 : Nat) : Int) else f) = 0 := if_pos hn0
    simp only [e0, fuA_zero] at hz
    exact ⟨z, hz⟩
  · have hA := fuA_ok (a := (ws, sf, f, false)) (fl := fl) h i (by omega)
    obtain ⟨hf, hu⟩ := fuA_fu (a := (ws, sf, f, false)) (fl := fl) hn0 hn1 rfl rfl i
    rw [fuA]
    generalize fuA fl (ws, sf, f, false) i = a at *
    clear h
    obtain ⟨ws, sf, g, u⟩ := a
    simp only at hf hu hA
    have w4 := (op_write hA (by omega) (fillZ_bytes (IntKind.wrap .u8 (i : Int))) g 0 u).1
    have f1 := (op_flush hA g u).1
    obtain ⟨a1, a2, a3, a4, a5⟩ := wr3 ws g u
    obtain ⟨b1, b2, b3, b4, b5⟩ := wr0 ws g u
    obtain ⟨c1, c2, c3⟩ := wr1 (IntKind.wrap .u8 (i : Int)) g u
    have hm : off_v0 3 u = u := by cases u <;> rfl
    have hm2 : off_v0 3 true = true := rfl
    have hd : IntKind.wrap .i64 ((if (i : Int) ≤ f then (i : Int) else f) + 1) = (if (i : Int) ≤ f then (i : Int) else f) + 1 := by rw [IntKind.wrap_i64]; split <;> omega
    unfold fu_step fuN flW flS flF flU
    simp only [hwn, Int.toNat_natCast, decide_eq_true (show (i : Int) < f + 3 by omega), decide_eq_true (show (0 : Int) ≤ (i : Int) by omega), a1, a2, a3, a4, a5, b1, b2, b3, b4, b5, c1, c2, c3, w4, hm, hd, able3, wrap_succ (show i < 2 ^ 62 by omega), Bool.not_true, Bool.not_false, Bool.false_or, Bool.true_and]
    rw [able3] at f1
    subst hf hu
    by_cases q1 : f < (i : Int)
    · have hD : (if ((i + 1 : Nat) : Int) ≤ f then ((i + 1 : Nat) : Int) else f) = f := if_neg (by omega)
      simp only [decide_eq_true q1, if_neg (show ¬ (i : Int) ≤ f by omega), cond_true, hD, hm2]
      by_cases hi2 : i < fl.length
      · have hb := allE_nth hfl hi2
        simp only [decide_eq_true hi2, decide_eq_true (show (i : Int) < (fl.length : Int) by omega), hb, Bool.true_and, cond_true]
        cases D.getB (nthD fl i) <;> rfl
      · simp only [decide_eq_false hi2, decide_eq_false (show ¬ (i : Int) < (fl.length : Int) by omega), Bool.false_and, cond_false]
        rfl
    · by_cases q2 : (i : Int) = f
      · have hD : (if ((i + 1 : Nat) : Int) ≤ f then ((i + 1 : Nat) : Int) else f) = f := if_neg (by omega)
        have e0 : burns_v0 0 = true := rfl
        have e1 : burns_v1 0 = -1 := rfl
        have e2 : burns_v2 0 false = true := rfl
        simp only [decide_eq_false q1, if_pos (show (i : Int) ≤ f by omega), cond_false, hD, show f - (i : Int) = 0 by omega, e0, e1, e2, cond_true, hm2]
        by_cases hi2 : i < fl.length
        · have hb := allE_nth hfl hi2
          simp only [decide_eq_true hi2, decide_eq_true (show (i : Int) < (fl.length : Int) by omega), hb, Bool.true_and, cond_true]
          cases D.getB (nthD fl i) <;> (rw [← q2]; rfl)
        · simp only [decide_eq_false hi2, decide_eq_false (show ¬ (i : Int) < (fl.length : Int) by omega), Bool.false_and, cond_false]
          rw [← q2]; rfl
      · have hD : (if ((i + 1 : Nat) : Int) ≤ f then ((i + 1 : Nat) : Int) else f) = (i : Int) + 1 := by rw [if_pos (by omega)]; omega
        have e0 : burns_v0 (f - (i : Int)) = false := by
          unfold burns_v0
          rw [show (f - (i : Int) == 0) = false by rw [beq_eq_false_iff_ne]; omega, Bool.and_false]
        simp only [decide_eq_false q1, if_pos (show (i : Int) ≤ f by omega), cond_false, hD, e0]
        rw [decide_eq_false q1, if_pos (show (i : Int) ≤ f by omega), e0] at f1
        have f1 : flush_pre 3 3 ws sf = true := f1
        by_cases hi2 : i < fl.length
        · have hb := allE_nth hfl hi2
          simp only [decide_eq_true hi2, decide_eq_true (show (i : Int) < (fl.length : Int) by omega), hb, f1, Bool.true_and, cond_true]
          cases D.getB (nthD fl i) <;> rfl
        · simp only [decide_eq_false hi2, decide_eq_false (show ¬ (i : Int) < (fl.length : Int) by omega), Bool.false_and, cond_false]
          rfl
  · obtain ⟨hf, hu⟩ := fuA_fu (a := (ws, sf, f, false)) (fl := fl) hn0 hn1 rfl rfl (f.toNat + 3)
    rw [if_neg (by omega)] at hf
    rw [decide_eq_true (by omega)] at hu
    unfold fu_step
    simp only [hwn, decide_eq_false (show ¬ ((f.toNat + 3 : Nat) : Int) < f + 3 by omega), if_neg (show ¬ ((f.toNat + 3 : Nat) : Int) ≤ f by omega), hf, hu]
    rfl
def L_fu : Frame' → Store → T (Exit × Frame' × Store) := fun fr σ => match fr.getD 0 .undef, fr.getD 1 .undef, fr.getD 5 .undef, fr.getD 7 .undef, fr.getD 8 .undef, σ with
  | AV.dat (D.int IntKind.u8 n), AV.dat (D.slc Sh.one fl), AV.ptr (Sh.agg [Sh.one, Sh.one, Sh.one, Sh.one]) 0 0 [], AV.dat (D.int IntKind.i64 0), AV.dat (D.int IntKind.i64 0), [{ sh := Sh.agg [Sh.one, Sh.one, Sh.one, Sh.one], dyn := false, frz := false, v := AV.agg [AV.sref (Sh.arr Sh.one 128) 1 m [] 0 k, AV.dat (D.slc (Sh.agg [Sh.one, Sh.arr Sh.one 128]) ws), AV.dat (D.int IntKind.i64 f), AV.dat (D.bool u)] }, { sh := Sh.arr (Sh.arr Sh.one 128) 0, dyn := true, frz := false, v := AV.dat (D.arr (Sh.arr Sh.one 128) sf) }] => .chk (Nat.beq fr.length 104 && (fuC m k n fl ws sf f u)) (T.bind (.leaf (some 0, mkF 104 [(0, .dat (.int .u8 n)), (5, dP), (7, .dat (.int .i64 n))], [dB 3 3 (fuA fl (ws, sf, f, u) (n.toNat + 3)).1 (-1) true, sB (fuA fl (ws, sf, f, u) (n.toNat + 3)).2.1])) fun o => .leaf (outEx o.1, o.2.1, o.2.2))
  | _, _, _, _, _, _ => .fail
theorem fu_sem (lp : Loops) : ∀ fr σ p, (L_fu fr σ).run = some p → ∀ (K : Kt) r, K p.1 p.2.1 p.2.2 = some r → ∃ n, loopRun (envOf tab SpF [] lp HF) Try.f6 0 σ.length n (cleanF (liveAt Try.f6 0) 0 fr) σ K = some r := by
  intro fr σ p h K r hK
  unfold L_fu at h
  split at h
  · rename_i n fl m k ws f u sf g0 g1 g5 g7 g8
    obtain ⟨hc, h'⟩ := T.chk_some h
    rw [Bool.and_eq_true] at hc
    obtain ⟨hl, hc⟩ := hc
    obtain ⟨o, ho, h'⟩ := T.bind_some h'
    have hp := T.leaf_some h'
    subst hp
    obtain ⟨nF, hn⟩ : ∃ nF, (iterT (fu_step m k n fl) nF ((0, 0, ws, sf, f, u))).run = T.run (.leaf (some 0, mkF 104 [(0, .dat (.int .u8 n)), (5, dP), (7, .dat (.int .i64 n))], [dB 3 3 (fuA fl (ws, sf, f, u) (n.toNat + 3)).1 (-1) true, sB (fuA fl (ws, sf, f, u) (n.toNat + 3)).2.1])) := fu_closed m k n fl ws sf f u hc
    rw [ho] at hn
    refine ⟨nF, ?_⟩
    have he : cleanF (liveAt Try.f6 0) 0 fr = fu_fr m k n fl ((0, 0, ws, sf, f, u)) := fu_enter m k n fl _ _ _ _ _ _ fr hl g0 g1 g5 g7 g8
    refine (iter_ok (base := 2) (fu_hr lp m k n fl) K nF ((0, 0, ws, sf, f, u)) _ _ (by rw [clean_clean]; exact he) (by kernel_rfl)).trans ?_
    rw [T.k_run hn]
    exact hK
  · simp [T.run_fail] at h
theorem fu_loopOk {k : Nat} (lp : Loops) (hk : Loops.get lp 7 = some L_fu) : LoopOkN Try.prog k (envOf tab SpF [] lp HF) (loopAt Try.f6 0).1 (loopAt Try.f6 0).2 := loop_okN (L := L_fu) (by kernel_rfl) hk (fu_sem lp)
abbrev fs_E : Env := envOf tab SpF [] [(7, L_fu)] HF
def fs_F0 (n : Int) (fl : List D) : Frame' := mkF 104 [(0, .dat (.int IntKind.u8 n)), (1, .dat (.slc Sh.one fl))]
def fs_T0 (_n : Int) (_fl : List D) : Store := []
theorem fs_start (n : Int) (fl : List D) : runF (envOf tab SpF [] [(7, L_fu)] HF) true Try.f6 [.dat (.int .u8 n), .dat (.slc .one fl)] [] = ex (Env.rebase (fs_E) 0) [4] (sqR 0 (bodyOf Try.f6)) [] [4] (fs_F0 n fl) (fs_T0 n fl) (finK (fs_E) true Try.f6 (callFin [] [])) := run_start (ρ := []) (args' := [.dat (.int IntKind.u8 n), .dat (.slc Sh.one fl)]) (by kernel_rfl) (by kernel_rfl) (by kernel_rfl) (by kernel_rfl) (by kernel_rfl) (by kernel_rfl) (by kernel_rfl) (by kernel_rfl) (by kernel_rfl)
theorem fs_q0 (n : Int) (fl : List D) (K : Kt) : ex (Env.rebase (fs_E) 0) [4] (sqA (sqR 0 (bodyOf Try.f6))) [] [1, 0] (fs_F0 n fl) (fs_T0 n fl) K = K .normal (mkF 104 [(0, .dat (.int IntKind.u8 n)), (1, .dat (.slc Sh.one fl)), (4, .dat (.bool false))]) ([]) := by kernel_rfl
def fs_F1 (n : Int) (fl : List D) : Frame' := mkF 104 [(0, .dat (.int IntKind.u8 n)), (1, .dat (.slc Sh.one fl)), (4, .dat (.bool false))]
def fs_T1 (_n : Int) (_fl : List D) : Store := []
theorem fs_s0 (n : Int) (fl : List D) (K : Kt) : ex (Env.rebase (fs_E) 0) [4] (sqR 0 (bodyOf Try.f6)) [] [4] (fs_F0 n fl) (fs_T0 n fl) K = ex (Env.rebase (fs_E) 0) [4] (sqR 1 (bodyOf Try.f6)) [] [4] (fs_F1 n fl) (fs_T1 n fl) K := (seg_str (c := (sqR 0 (bodyOf Try.f6))) (a := sqA (sqR 0 (bodyOf Try.f6))) (b := (sqR 1 (bodyOf Try.f6))) (by kernel_rfl) (by kernel_rfl) (by kernel_rfl) (fs_q0 n fl) K).trans (seqK_normal (by kernel_rfl) (by kernel_rfl))
theorem fs_q1 (n : Int) (fl : List D) (K : Kt) : ex (Env.rebase (fs_E) 0) [4] (sqA (sqR 1 (bodyOf Try.f6))) [] [6, 1, 0, 5] (fs_F1 n fl) (fs_T1 n fl) K = K .normal (mkF 104 [(0, .dat (.int IntKind.u8 n)), (1, .dat (.slc Sh.one fl)), (4, .dat (.bool false)), (5, AV.ptr (s61) 0 0 []), (6, .dat (.int .i64 0)), (10, AV.tup [AV.ptr (s61) 0 0 [], .dat (.int .i64 0)]), (11, AV.tup [AV.ptr (s61) 0 0 [], .dat (.int .i64 0)]), (12, AV.ptr (s61) 0 0 []), (13, .dat (.int .i64 0))]) ([{ sh := s61, dyn := false, frz := false, v := AV.agg [AV.sref (Sh.arr Sh.one 128) 1 3 [] 0 3, .dat (.slc (s67) []), .dat (.int .i64 (-1 : Int)), .dat (.bool false)] }, { sh := Sh.arr (Sh.arr Sh.one 128) 0, dyn := true, frz := false, v := .dat (.arr (Sh.arr Sh.one 128) (new_v0 3)) }]) := by kernel_rfl
def fs_F2 (n : Int) (fl : List D) : Frame' := mkF 104 [(0, .dat (.int IntKind.u8 n)), (1, .dat (.slc Sh.one fl)), (4, .dat (.bool false)), (5, AV.ptr (s61) 0 0 []), (6, .dat (.int .i64 0)), (10, AV.tup [AV.ptr (s61) 0 0 [], .dat (.int .i64 0)]), (11, AV.tup [AV.ptr (s61) 0 0 [], .dat (.int .i64 0)]), (12, AV.ptr (s61) 0 0 []), (13, .dat (.int .i64 0))]
def fs_T2 (_n : Int) (_fl : List D) : Store := [{ sh := s61, dyn := false, frz := false, v := AV.agg [AV.sref (Sh.arr Sh.one 128) 1 3 [] 0 3, .dat (.slc (s67) []), .dat (.int .i64 (-1 : Int)), .dat (.bool false)] }, { sh := Sh.arr (Sh.arr Sh.one 128) 0, dyn := true, frz := false, v := .dat (.arr (Sh.arr Sh.one 128) (new_v0 3)) }]
theorem fs_s1 (n : Int) (fl : List D) (K : Kt) : ex (Env.rebase (fs_E) 0) [4] (sqR 1 (bodyOf Try.f6)) [] [4] (fs_F1 n fl) (fs_T1 n fl) K = ex (Env.rebase (fs_E) 0) [4] (sqR 2 (bodyOf Try.f6)) [] [4] (fs_F2 n fl) (fs_T2 n fl) K := (seg_str (c := (sqR 1 (bodyOf Try.f6))) (a := sqA (sqR 1 (bodyOf Try.f6))) (b := (sqR 2 (bodyOf Try.f6))) (by kernel_rfl) (by kernel_rfl) (by kernel_rfl) (fs_q1 n fl) K).trans (seqK_normal (by kernel_rfl) (by kernel_rfl))
theorem fs_q2 (n : Int) (fl : List D) (J : List AV → Store → Option Res) (K : Kt) : ex (Env.rebase (fs_E) 2) [4] (sqA (sqR 2 (bodyOf Try.f6))) [] [1, 0, 5] (fs_F2 n fl) (fs_T2 n fl) (jK [] J K) = J ([]) ([{ sh := s61, dyn := false, frz := false, v := AV.agg [AV.sref (Sh.arr Sh.one 128) 1 3 [] 0 3, .dat (.slc (s67) []), .dat (.int .i64 (-1 : Int)), .dat (.bool false)] }, { sh := Sh.arr (Sh.arr Sh.one 128) 0, dyn := true, frz := false, v := .dat (.arr (Sh.arr Sh.one 128) (new_v0 3)) }]) := by kernel_rfl
def fs_F3 (n : Int) (fl : List D) : Frame' := mkF 104 [(0, .dat (.int IntKind.u8 n)), (1, .dat (.slc Sh.one fl)), (5, AV.ptr (s61) 0 0 []), (6, .dat (.int .i64 0)), (10, AV.tup [AV.ptr (s61) 0 0 [], .dat (.int .i64 0)]), (11, AV.tup [AV.ptr (s61) 0 0 [], .dat (.int .i64 0)]), (12, AV.ptr (s61) 0 0 []), (13, .dat (.int .i64 0))]
def fs_T3 (_n : Int) (_fl : List D) : Store := [{ sh := s61, dyn := false, frz := false, v := AV.agg [AV.sref (Sh.arr Sh.one 128) 1 3 [] 0 3, .dat (.slc (s67) []), .dat (.int .i64 (-1 : Int)), .dat (.bool false)] }, { sh := Sh.arr (Sh.arr Sh.one 128) 0, dyn := true, frz := false, v := .dat (.arr (Sh.arr Sh.one 128) (new_v0 3)) }]
theorem fs_s2 (n : Int) (fl : List D) (K : Kt) : ex (Env.rebase (fs_E) 0) [4] (sqR 2 (bodyOf Try.f6)) [] [4] (fs_F2 n fl) (fs_T2 n fl) K = ex (Env.rebase (fs_E) 0) [4] (sqR 3 (bodyOf Try.f6)) [] [4] (fs_F3 n fl) (fs_T3 n fl) K := (seg_join (c := (sqR 2 (bodyOf Try.f6))) (a := sqA (sqR 2 (bodyOf Try.f6))) (b := (sqR 3 (bodyOf Try.f6))) (ds := [14, 15, 16, 17, 18, 19, 4]) (by kernel_rfl) (by kernel_rfl) (by kernel_rfl) (by kernel_rfl) (by kernel_rfl) (by kernel_rfl) (fs_q2 n fl) K).trans (ex_same (by kernel_rfl) (by kernel_rfl))
theorem fs_q3 (n : Int) (fl : List D) (K : Kt) : ex (Env.rebase (fs_E) 0) [4] (sqA (sqR 3 (bodyOf Try.f6))) [] [1, 0, 5] (fs_F3 n fl) (fs_T3 n fl) K = K .normal (mkF 104 [(0, .dat (.int IntKind.u8 n)), (1, .dat (.slc Sh.one fl)), (5, AV.ptr (s61) 0 0 []), (20, AV.ptr (s61) 0 0 []), (21, .dat (.int IntKind.u8 n)), (22, .dat (.int .i64 (IntKind.wrap IntKind.i64 n))), (23, AV.tup [])]) ([{ sh := s61, dyn := false, frz := false, v := AV.agg [AV.sref (Sh.arr Sh.one 128) 1 3 [] 0 3, .dat (.slc (s67) []), .dat (.int .i64 (fuse_v0 3 (-1 : Int) (IntKind.wrap IntKind.i64 n))), .dat (.bool false)] }, { sh := Sh.arr (Sh.arr Sh.one 128) 0, dyn := true, frz := false, v := .dat (.arr (Sh.arr Sh.one 128) (new_v0 3)) }]) := by kernel_rfl
def fs_F4 (n : Int) (fl : List D) : Frame' := mkF 104 [(0, .dat (.int IntKind.u8 n)), (1, .dat (.slc Sh.one fl)), (5, AV.ptr (s61) 0 0 []), (20, AV.ptr (s61) 0 0 []), (21, .dat (.int IntKind.u8 n)), (22, .dat (.int .i64 (IntKind.wrap IntKind.i64 n))), (23, AV.tup [])]
def fs_T4 (n : Int) (_fl : List D) : Store := [{ sh := s61, dyn := false, frz := false, v := AV.agg [AV.sref (Sh.arr Sh.one 128) 1 3 [] 0 3, .dat (.slc (s67) []), .dat (.int .i64 (fuse_v0 3 (-1 : Int) (IntKind.wrap IntKind.i64 n))), .dat (.bool false)] }, { sh := Sh.arr (Sh.arr Sh.one 128) 0, dyn := true, frz := false, v := .dat (.arr (Sh.arr Sh.one 128) (new_v0 3)) }]
theorem fs_s3 (n : Int) (fl : List D) (K : Kt) : ex (Env.rebase (fs_E) 0) [4] (sqR 3 (bodyOf Try.f6)) [] [4] (fs_F3 n fl) (fs_T3 n fl) K = ex (Env.rebase (fs_E) 0) [4] (sqR 4 (bodyOf Try.f6)) [] [4] (fs_F4 n fl) (fs_T4 n fl) K := (seg_str (c := (sqR 3 (bodyOf Try.f6))) (a := sqA (sqR 3 (bodyOf Try.f6))) (b := (sqR 4 (bodyOf Try.f6))) (by kernel_rfl) (by kernel_rfl) (by kernel_rfl) (fs_q3 n fl) K).trans (seqK_normal (by kernel_rfl) (by kernel_rfl))
theorem fs_q4 (n : Int) (fl : List D) (K : Kt) : ex (Env.rebase (fs_E) 0) [4] (sqA (sqR 4 (bodyOf Try.f6))) [] [1, 7, 0, 5] (fs_F4 n fl) (fs_T4 n fl) K = K .normal (mkF 104 [(0, .dat (.int IntKind.u8 n)), (1, .dat (.slc Sh.one fl)), (5, AV.ptr (s61) 0 0 []), (7, .dat (.int .i64 0))]) ([{ sh := s61, dyn := false, frz := false, v := AV.agg [AV.sref (Sh.arr Sh.one 128) 1 3 [] 0 3, .dat (.slc (s67) []), .dat (.int .i64 (fuse_v0 3 (-1 : Int) (IntKind.wrap IntKind.i64 n))), .dat (.bool false)] }, { sh := Sh.arr (Sh.arr Sh.one 128) 0, dyn := true, frz := false, v := .dat (.arr (Sh.arr Sh.one 128) (new_v0 3)) }]) := by kernel_rfl
def fs_F5 (n : Int) (fl : List D) : Frame' := mkF 104 [(0, .dat (.int IntKind.u8 n)), (1, .dat (.slc Sh.one fl)), (5, AV.ptr (s61) 0 0 []), (7, .dat (.int .i64 0))]
def fs_T5 (n : Int) (_fl : List D) : Store := [{ sh := s61, dyn := false, frz := false, v := AV.agg [AV.sref (Sh.arr Sh.one 128) 1 3 [] 0 3, .dat (.slc (s67) []), .dat (.int .i64 (fuse_v0 3 (-1 : Int) (IntKind.wrap IntKind.i64 n))), .dat (.bool false)] }, { sh := Sh.arr (Sh.arr Sh.one 128) 0, dyn := true, frz := false, v := .dat (.arr (Sh.arr Sh.one 128) (new_v0 3)) }]
theorem fs_s4 (n : Int) (fl : List D) (K : Kt) : ex (Env.rebase (fs_E) 0) [4] (sqR 4 (bodyOf Try.f6)) [] [4] (fs_F4 n fl) (fs_T4 n fl) K = ex (Env.rebase (fs_E) 0) [4] (sqR 5 (bodyOf Try.f6)) [] [4] (fs_F5 n fl) (fs_T5 n fl) K := (seg_str (c := (sqR 4 (bodyOf Try.f6))) (a := sqA (sqR 4 (bodyOf Try.f6))) (b := (sqR 5 (bodyOf Try.f6))) (by kernel_rfl) (by kernel_rfl) (by kernel_rfl) (fs_q4 n fl) K).trans (seqK_normal (by kernel_rfl) (by kernel_rfl))
theorem fs_r5 (n : Int) (fl : List D) (J : List AV → Store → Option Res) (K : Kt) : ex (Env.rebase (fs_E) 2) [4] (sqA (sqR 5 (bodyOf Try.f6))) [] [7, 0, 5] (fs_F5 n fl) (fs_T5 n fl) (jK [7] J K) = (cond (fuC 3 3 n fl [] (new_v0 3) (fuse_v0 3 (-1 : Int) (IntKind.wrap IntKind.i64 n)) false) (J ([.dat (.int .i64 n)]) ([{ sh := s61, dyn := false, frz := false, v := AV.agg [AV.sref (Sh.arr Sh.one 128) 1 3 [] 0 3, .dat (.slc (s67) (Prod.fst (fuA fl ([], new_v0 3, fuse_v0 3 (-1 : Int) (IntKind.wrap IntKind.i64 n), false) (Int.toNat n + 3)))), .dat (.int .i64 (-1 : Int)), .dat (.bool true)] }, { sh := Sh.arr (Sh.arr Sh.one 128) 0, dyn := true, frz := false, v := .dat (.arr (Sh.arr Sh.one 128) (Prod.fst (Prod.snd (fuA fl ([], new_v0 3, fuse_v0 3 (-1 : Int) (IntKind.wrap IntKind.i64 n), false) (Int.toNat n + 3))))) }])) (none)) := by kernel_rfl
theorem fs_q5 (n : Int) (fl : List D) (J : List AV → Store → Option Res) (K : Kt) : ex (Env.rebase (fs_E) 2) [4] (sqA (sqR 5 (bodyOf Try.f6))) [] [7, 0, 5] (fs_F5 n fl) (fs_T5 n fl) (jK [7] J K) = (cond (fuC 3 3 n fl [] (new_v0 3) (fuse_v0 3 (-1 : Int) (IntKind.wrap IntKind.i64 n)) false) (J ([.dat (.int .i64 n)]) ([{ sh := s61, dyn := false, frz := false, v := AV.agg [AV.sref (Sh.arr Sh.one 128) 1 3 [] 0 3, .dat (.slc (s67) (Prod.fst (fuA fl ([], new_v0 3, fuse_v0 3 (-1 : Int) (IntKind.wrap IntKind.i64 n), false) (Int.toNat n + 3)))), .dat (.int .i64 (-1 : Int)), .dat (.bool true)] }, { sh := Sh.arr (Sh.arr Sh.one 128) 0, dyn := true, frz := false, v := .dat (.arr (Sh.arr Sh.one 128) (Prod.fst (Prod.snd (fuA fl ([], new_v0 3, fuse_v0 3 (-1 : Int) (IntKind.wrap IntKind.i64 n), false) (Int.toNat n + 3))))) }])) none) := (fs_r5 n fl J K).trans (by
  generalize (fuC 3 3 n fl [] (new_v0 3) (fuse_v0 3 (-1 : Int) (IntKind.wrap IntKind.i64 n)) false) = z0
  cases z0 with
  | true =>
   rfl
  | false =>
   rfl
  )
def fs_w5v0 (n : Int) (fl : List D) : List D := Prod.fst (fuA fl ([], new_v0 3, fuse_v0 3 (-1 : Int) (IntKind.wrap IntKind.i64 n), false) (Int.toNat n + 3))
def fs_w5v1 (n : Int) (fl : List D) : List D := Prod.fst (Prod.snd (fuA fl ([], new_v0 3, fuse_v0 3 (-1 : Int) (IntKind.wrap IntKind.i64 n), false) (Int.toNat n + 3)))
def fs_F6 (n : Int) (fl : List D) : Frame' := mkF 104 [(0, .dat (.int IntKind.u8 n)), (1, .dat (.slc Sh.one fl)), (5, AV.ptr (s61) 0 0 []), (7, .dat (.int .i64 n))]
def fs_T6 (n : Int) (fl : List D) : Store := [{ sh := s61, dyn := false, frz := false, v := AV.agg [AV.sref (Sh.arr Sh.one 128) 1 3 [] 0 3, .dat (.slc (s67) (fs_w5v0 n fl)), .dat (.int .i64 (-1 : Int)), .dat (.bool true)] }, { sh := Sh.arr (Sh.arr Sh.one 128) 0, dyn := true, frz := false, v := .dat (.arr (Sh.arr Sh.one 128) (fs_w5v1 n fl)) }]
def fs_p5 (n : Int) (fl : List D) : Bool := fuC 3 3 n fl [] (new_v0 3) (fuse_v0 3 (-1 : Int) (IntKind.wrap IntKind.i64 n)) false
theorem fs_s5 (n : Int) (fl : List D) (K : Kt) : ex (Env.rebase (fs_E) 0) [4] (sqR 5 (bodyOf Try.f6)) [] [4] (fs_F5 n fl) (fs_T5 n fl) K = (cond (fs_p5 n fl) (ex (Env.rebase (fs_E) 0) [4] (sqR 6 (bodyOf Try.f6)) [] [4] (fs_F6 n fl) (fs_T6 n fl) K) none) := (seg_join (c := (sqR 5 (bodyOf Try.f6))) (a := sqA (sqR 5 (bodyOf Try.f6))) (b := (sqR 6 (bodyOf Try.f6))) (ds := [24, 25, 26, 27, 28, 31, 32, 33, 34, 35, 36, 37, 38, 39, 40, 41, 42, 43, 44, 45, 46, 47, 48, 49, 50, 51, 52, 53, 54, 55, 56, 9, 57, 58, 59, 60, 7, 61, 62, 63, 64, 65, 66, 67, 4, 29, 30, 8]) (by kernel_rfl) (by kernel_rfl) (by kernel_rfl) (by kernel_rfl) (by kernel_rfl) (by kernel_rfl) (fs_q5 n fl) K).trans (condC (ex_same (by kernel_rfl) (by kernel_rfl)))
theorem fs_r6 (n : Int) (fl : List D) (J : List AV → Store → Option Res) (K : Kt) : ex (Env.rebase (fs_E) 2) [4] (sqA (sqR 6 (bodyOf Try.f6))) [] [5] (fs_F6 n fl) (fs_T6 n fl) (jK [] J K) = (cond (D.eqb (D.bool (n != IntKind.wrap IntKind.i64 n)) (D.bool false)) (J ([]) ([{ sh := s61, dyn := false, frz := false, v := AV.agg [AV.sref (Sh.arr Sh.one 128) 1 3 [] 0 3, .dat (.slc (s67) (fs_w5v0 n fl)), .dat (.int .i64 (-1 : Int)), .dat (.bool true)] }, { sh := Sh.arr (Sh.arr Sh.one 128) 0, dyn := true, frz := false, v := .dat (.arr (Sh.arr Sh.one 128) (fs_w5v1 n fl)) }])) (none)) := by kernel_rfl
theorem fs_q6 (n : Int) (fl : List D) (J : List AV → Store → Option Res) (K : Kt) : ex (Env.rebase (fs_E) 2) [4] (sqA (sqR 6 (bodyOf Try.f6))) [] [5] (fs_F6 n fl) (fs_T6 n fl) (jK [] J K) = (cond (!n != IntKind.wrap IntKind.i64 n) (J ([]) ([{ sh := s61, dyn := false, frz := false, v := AV.agg [AV.sref (Sh.arr Sh.one 128) 1 3 [] 0 3, .dat (.slc (s67) (fs_w5v0 n fl)), .dat (.int .i64 (-1 : Int)), .dat (.bool true)] }, { sh := Sh.arr (Sh.arr Sh.one 128) 0, dyn := true, frz := false, v := .dat (.arr (Sh.arr Sh.one 128) (fs_w5v1 n fl)) }])) none) := (fs_r6 n fl J K).trans (by
  generalize (n != IntKind.wrap IntKind.i64 n) = z0
  cases z0 with
  | true =>
   rfl
  | false =>
   rfl
  )
def fs_F7 (n : Int) (fl : List D) : Frame' := mkF 104 [(0, .dat (.int IntKind.u8 n)), (1, .dat (.slc Sh.one fl)), (5, AV.ptr (s61) 0 0 []), (7, .dat (.int .i64 n))]
def fs_T7 (n : Int) (fl : List D) : Store := [{ sh := s61, dyn := false, frz := false, v := AV.agg [AV.sref (Sh.arr Sh.one 128) 1 3 [] 0 3, .dat (.slc (s67) (fs_w5v0 n fl)), .dat (.int .i64 (-1 : Int)), .dat (.bool true)] }, { sh := Sh.arr (Sh.arr Sh.one 128) 0, dyn := true, frz := false, v := .dat (.arr (Sh.arr Sh.one 128) (fs_w5v1 n fl)) }]
def fs_p6 (n : Int) : Bool := !n != IntKind.wrap IntKind.i64 n
theorem fs_s6 (n : Int) (fl : List D) (K : Kt) : ex (Env.rebase (fs_E) 0) [4] (sqR 6 (bodyOf Try.f6)) [] [4] (fs_F6 n fl) (fs_T6 n fl) K = (cond (fs_p6 n) (ex (Env.rebase (fs_E) 0) [4] (sqR 7 (bodyOf Try.f6)) [] [4] (fs_F7 n fl) (fs_T7 n fl) K) none) := (seg_join (c := (sqR 6 (bodyOf Try.f6))) (a := sqA (sqR 6 (bodyOf Try.f6))) (b := (sqR 7 (bodyOf Try.f6))) (ds := [68, 69, 70, 71, 72, 73, 74, 75, 76, 4]) (by kernel_rfl) (by kernel_rfl) (by kernel_rfl) (by kernel_rfl) (by kernel_rfl) (by kernel_rfl) (fs_q6 n fl) K).trans (condC (ex_same (by kernel_rfl) (by kernel_rfl)))
theorem fs_r7 (n : Int) (fl : List D) (K : Kt) : ex (Env.rebase (fs_E) 0) [4] (sqA (sqR 7 (bodyOf Try.f6))) [] [4] (fs_F7 n fl) (fs_T7 n fl) K = (cond (crash_pre 3 3 (fs_w5v0 n fl) (fs_w5v1 n fl) []) ((cond (flush_pre 3 3 (write_v1 3 [] (fillZ 1) 0 false) (crash_v0 (fs_w5v0 n fl) (fs_w5v1 n fl) [])) (K .normal (mkF 104 [(4, .dat (.bool true)), (5, AV.ptr (s61) 0 0 []), (77, .dat (.bool true)), (78, .dat (.bool true)), (81, .dat (.bool true)), (82, .dat (.bool true)), (83, .dat (.bool true)), (86, .dat (.bool true)), (87, .dat (.bool true)), (88, .dat (.bool true)), (91, .dat (.bool true)), (92, .dat (.bool true)), (93, .dat (.bool true)), (97, .dat (.bool true)), (98, .dat (.bool true)), (99, .dat (.bool true)), (102, .dat (.bool true)), (103, .dat (.bool true))]) ([{ sh := s61, dyn := false, frz := false, v := AV.agg [AV.sref (Sh.arr Sh.one 128) 1 3 [] 0 3, AV.fslc (s67) [], .dat (.int .i64 (burns_v1 (write_v2 3 (fillZ 1) (-1 : Int) 0 false))), .dat (.bool false)] }, { sh := Sh.arr (Sh.arr Sh.one 128) 0, dyn := true, frz := false, v := .dat (.arr (Sh.arr Sh.one 128) (setW (crash_v0 (fs_w5v0 n fl) (fs_w5v1 n fl) []) (D.agg [D.int .i64 0, D.arr Sh.one [D.int IntKind.u8 1, D.int IntKind.u8 1, D.int IntKind.u8 1, D.int IntKind.u8 1, D.int IntKind.u8 1, D.int IntKind.u8 1, D.int IntKind.u8 1, D.int IntKind.u8 1, D.int IntKind.u8 1, D.int IntKind.u8 1, D.int IntKind.u8 1, D.int IntKind.u8 1, D.int IntKind.u8 1, D.int IntKind.u8 1, D.int IntKind.u8 1, D.int IntKind.u8 1, D.int IntKind.u8 1, D.int IntKind.u8 1, D.int IntKind.u8 1, D.int IntKind.u8 1, D.int IntKind.u8 1, D.int IntKind.u8 1, D.int IntKind.u8 1, D.int IntKind.u8 1, D.int IntKind.u8 1, D.int IntKind.u8 1, D.int IntKind.u8 1, D.int IntKind.u8 1, D.int IntKind.u8 1, D.int IntKind.u8 1, D.int IntKind.u8 1, D.int IntKind.u8 1, D.int IntKind.u8 1, D.int IntKind.u8 1, D.int IntKind.u8 1, D.int IntKind.u8 1, D.int IntKind.u8 1, D.int IntKind.u8 1, D.int IntKind.u8 1, D.int IntKind.u8 1, D.int IntKind.u8 1, D.int IntKind.u8 1, D.int IntKind.u8 1, D.int IntKind.u8 1, D.int IntKind.u8 1, D.int IntKind.u8 1, D.int IntKind.u8 1, D.int IntKind.u8 1, D.int IntKind.u8 1, D.int IntKind.u8 1, D.int IntKind.u8 1, D.int IntKind.u8 1, D.int IntKind.u8 1, D.int IntKind.u8 1, D.int IntKind.u8 1, D.int IntKind.u8 1, D.int IntKind.u8 1, D.int IntKind.u8 1, D.int IntKind.u8 1, D.int IntKind.u8 1, D.int IntKind.u8 1, D.int IntKind.u8 1, D.int IntKind.u8 1, D.int IntKind.u8 1, D.int IntKind.u8 1, D.int IntKind.u8 1, D.int IntKind.u8 1, D.int IntKind.u8 1, D.int IntKind.u8 1, D.int IntKind.u8 1, D.int IntKind.u8 1, D.int IntKind.u8 1, D.int IntKind.u8 1, D.int IntKind.u8 1, D.int IntKind.u8 1, D.int IntKind.u8 1, D.int IntKind.u8 1, D.int IntKind.u8 1, D.int IntKind.u8 1, D.int IntKind.u8 1, D.int IntKind.u8 1, D.int IntKind.u8 1, D.int IntKind.u8 1, D.int IntKind.u8 1, D.int IntKind.u8 1, D.int IntKind.u8 1, D.int IntKind.u8 1, D.int IntKind.u8 1, D.int IntKind.u8 1, D.int IntKind.u8 1, D.int IntKind.u8 1, D.int IntKind.u8 1, D.int IntKind.u8 1, D.int IntKind.u8 1, D.int IntKind.u8 1, D.int IntKind.u8 1, D.int IntKind.u8 1, D.int IntKind.u8 1, D.int IntKind.u8 1, D.int IntKind.u8 1, D.int IntKind.u8 1, D.int IntKind.u8 1, D.int IntKind.u8 1, D.int IntKind.u8 1, D.int IntKind.u8 1, D.int IntKind.u8 1, D.int IntKind.u8 1, D.int IntKind.u8 1, D.int IntKind.u8 1, D.int IntKind.u8 1, D.int IntKind.u8 1, D.int IntKind.u8 1, D.int IntKind.u8 1, D.int IntKind.u8 1, D.int IntKind.u8 1, D.int IntKind.u8 1, D.int IntKind.u8 1, D.int IntKind.u8 1, D.int IntKind.u8 1, D.int IntKind.u8 1, D.int IntKind.u8 1, D.int IntKind.u8 1, D.int IntKind.u8 1, D.int IntKind.u8 1, D.int IntKind.u8 1, D.int IntKind.u8 1, D.int IntKind.u8 1, D.int IntKind.u8 1]]))) }])) (none))) (none)) := by kernel_rfl
theorem fs_q7 (n : Int) (fl : List D) (K : Kt) : ex (Env.rebase (fs_E) 0) [4] (sqA (sqR 7 (bodyOf Try.f6))) [] [4] (fs_F7 n fl) (fs_T7 n fl) K = (cond (crash_pre 3 3 (fs_w5v0 n fl) (fs_w5v1 n fl) [] && flush_pre 3 3 (write_v1 3 [] (fillZ 1) 0 false) (crash_v0 (fs_w5v0 n fl) (fs_w5v1 n fl) [])) (K .normal (mkF 104 [(4, .dat (.bool true)), (5, AV.ptr (s61) 0 0 []), (77, .dat (.bool true)), (78, .dat (.bool true)), (81, .dat (.bool true)), (82, .dat (.bool true)), (83, .dat (.bool true)), (86, .dat (.bool true)), (87, .dat (.bool true)), (88, .dat (.bool true)), (91, .dat (.bool true)), (92, .dat (.bool true)), (93, .dat (.bool true)), (97, .dat (.bool true)), (98, .dat (.bool true)), (99, .dat (.bool true)), (102, .dat (.bool true)), (103, .dat (.bool true))]) ([{ sh := s61, dyn := false, frz := false, v := AV.agg [AV.sref (Sh.arr Sh.one 128) 1 3 [] 0 3, AV.fslc (s67) [], .dat (.int .i64 (burns_v1 (write_v2 3 (fillZ 1) (-1 : Int) 0 false))), .dat (.bool false)] }, { sh := Sh.arr (Sh.arr Sh.one 128) 0, dyn := true, frz := false, v := .dat (.arr (Sh.arr Sh.one 128) (setW (crash_v0 (fs_w5v0 n fl) (fs_w5v1 n fl) []) (D.agg [D.int .i64 0, D.arr Sh.one [D.int IntKind.u8 1, D.int IntKind.u8 1, D.int IntKind.u8 1, D.int IntKind.u8 1, D.int IntKind.u8 1, D.int IntKind.u8 1, D.int IntKind.u8 1, D.int IntKind.u8 1, D.int IntKind.u8 1, D.int IntKind.u8 1, D.int IntKind.u8 1, D.int IntKind.u8 1, D.int IntKind.u8 1, D.int IntKind.u8 1, D.int IntKind.u8 1, D.int IntKind.u8 1, D.int IntKind.u8 1, D.int IntKind.u8 1, D.int IntKind.u8 1, D.int IntKind.u8 1, D.int IntKind.u8 1, D.int IntKind.u8 1, D.int IntKind.u8 1, D.int IntKind.u8 1, D.int IntKind.u8 1, D.int IntKind.u8 1, D.int IntKind.u8 1, D.int IntKind.u8 1, D.int IntKind.u8 1, D.int IntKind.u8 1, D.int IntKind.u8 1, D.int IntKind.u8 1, D.int IntKind.u8 1, D.int IntKind.u8 1, D.int IntKind.u8 1, D.int IntKind.u8 1, D.int IntKind.u8 1, D.int IntKind.u8 1, D.int IntKind.u8 1, D.int IntKind.u8 1, D.int IntKind.u8 1, D.int IntKind.u8 1, D.int IntKind.u8 1, D.int IntKind.u8 1, D.int IntKind.u8 1, D.int IntKind.u8 1, D.int IntKind.u8 1, D.int IntKind.u8 1, D.int IntKind.u8 1, D.int IntKind.u8 1, D.int IntKind.u8 1, D.int IntKind.u8 1, D.int IntKind.u8 1, D.int IntKind.u8 1, D.int IntKind.u8 1, D.int IntKind.u8 1, D.int IntKind.u8 1, D.int IntKind.u8 1, D.int IntKind.u8 1, D.int IntKind.u8 1, D.int IntKind.u8 1, D.int IntKind.u8 1, D.int IntKind.u8 1, D.int IntKind.u8 1, D.int IntKind.u8 1, D.int IntKind.u8 1, D.int IntKind.u8 1, D.int IntKind.u8 1, D.int IntKind.u8 1, D.int IntKind.u8 1, D.int IntKind.u8 1, D.int IntKind.u8 1, D.int IntKind.u8 1, D.int IntKind.u8 1, D.int IntKind.u8 1, D.int IntKind.u8 1, D.int IntKind.u8 1, D.int IntKind.u8 1, D.int IntKind.u8 1, D.int IntKind.u8 1, D.int IntKind.u8 1, D.int IntKind.u8 1, D.int IntKind.u8 1, D.int IntKind.u8 1, D.int IntKind.u8 1, D.int IntKind.u8 1, D.int IntKind.u8 1, D.int IntKind.u8 1, D.int IntKind.u8 1, D.int IntKind.u8 1, D.int IntKind.u8 1, D.int IntKind.u8 1, D.int IntKind.u8 1, D.int IntKind.u8 1, D.int IntKind.u8 1, D.int IntKind.u8 1, D.int IntKind.u8 1, D.int IntKind.u8 1, D.int IntKind.u8 1, D.int IntKind.u8 1, D.int IntKind.u8 1, D.int IntKind.u8 1, D.int IntKind.u8 1, D.int IntKind.u8 1, D.int IntKind.u8 1, D.int IntKind.u8 1, D.int IntKind.u8 1, D.int IntKind.u8 1, D.int IntKind.u8 1, D.int IntKind.u8 1, D.int IntKind.u8 1, D.int IntKind.u8 1, D.int IntKind.u8 1, D.int IntKind.u8 1, D.int IntKind.u8 1, D.int IntKind.u8 1, D.int IntKind.u8 1, D.int IntKind.u8 1, D.int IntKind.u8 1, D.int IntKind.u8 1, D.int IntKind.u8 1, D.int IntKind.u8 1, D.int IntKind.u8 1, D.int IntKind.u8 1, D.int IntKind.u8 1, D.int IntKind.u8 1, D.int IntKind.u8 1, D.int IntKind.u8 1]]))) }])) none) := (fs_r7 n fl K).trans (by
  generalize (flush_pre 3 3 (write_v1 3 [] (fillZ 1) 0 false) (crash_v0 (fs_w5v0 n fl) (fs_w5v1 n fl) [])) = z0
  generalize (crash_pre 3 3 (fs_w5v0 n fl) (fs_w5v1 n fl) []) = z1
  cases z1 with
  | true =>
   cases z0 with
   | true =>
    rfl
   | false =>
    rfl
  | false =>
   rfl
  )
def fs_w7v0 : Int := burns_v1 (write_v2 3 (fillZ 1) (-1 : Int) 0 false)
def fs_w7v1 (n : Int) (fl : List D) : List D := setW (crash_v0 (fs_w5v0 n fl) (fs_w5v1 n fl) []) (D.agg [D.int .i64 0, D.arr Sh.one [D.int IntKind.u8 1, D.int IntKind.u8 1, D.int IntKind.u8 1, D.int IntKind.u8 1, D.int IntKind.u8 1, D.int IntKind.u8 1, D.int IntKind.u8 1, D.int IntKind.u8 1, D.int IntKind.u8 1, D.int IntKind.u8 1, D.int IntKind.u8 1, D.int IntKind.u8 1, D.int IntKind.u8 1, D.int IntKind.u8 1, D.int IntKind.u8 1, D.int IntKind.u8 1, D.int IntKind.u8 1, D.int IntKind.u8 1, D.int IntKind.u8 1, D.int IntKind.u8 1, D.int IntKind.u8 1, D.int IntKind.u8 1, D.int IntKind.u8 1, D.int IntKind.u8 1, D.int IntKind.u8 1, D.int IntKind.u8 1, D.int IntKind.u8 1, D.int IntKind.u8 1, D.int IntKind.u8 1, D.int IntKind.u8 1, D.int IntKind.u8 1, D.int IntKind.u8 1, D.int IntKind.u8 1, D.int IntKind.u8 1, D.int IntKind.u8 1, D.int IntKind.u8 1, D.int IntKind.u8 1, D.int IntKind.u8 1, D.int IntKind.u8 1, D.int IntKind.u8 1, D.int IntKind.u8 1, D.int IntKind.u8 1, D.int IntKind.u8 1, D.int IntKind.u8 1, D.int IntKind.u8 1, D.int IntKind.u8 1, D.int IntKind.u8 1, D.int IntKind.u8 1, D.int IntKind.u8 1, D.int IntKind.u8 1, D.int IntKind.u8 1, D.int IntKind.u8 1, D.int IntKind.u8 1, D.int IntKind.u8 1, D.int IntKind.u8 1, D.int IntKind.u8 1, D.int IntKind.u8 1, D.int IntKind.u8 1, D.int IntKind.u8 1, D.int IntKind.u8 1, D.int IntKind.u8 1, D.int IntKind.u8 1, D.int IntKind.u8 1, D.int IntKind.u8 1, D.int IntKind.u8 1, D.int IntKind.u8 1, D.int IntKind.u8 1, D.int IntKind.u8 1, D.int IntKind.u8 1, D.int IntKind.u8 1, D.int IntKind.u8 1, D.int IntKind.u8 1, D.int IntKind.u8 1, D.int IntKind.u8 1, D.int IntKind.u8 1, D.int IntKind.u8 1, D.int IntKind.u8 1, D.int IntKind.u8 1, D.int IntKind.u8 1, D.int IntKind.u8 1, D.int IntKind.u8 1, D.int IntKind.u8 1, D.int IntKind.u8 1, D.int IntKind.u8 1, D.int IntKind.u8 1, D.int IntKind.u8 1, D.int IntKind.u8 1, D.int IntKind.u8 1, D.int IntKind.u8 1, D.int IntKind.u8 1, D.int IntKind.u8 1, D.int IntKind.u8 1, D.int IntKind.u8 1, D.int IntKind.u8 1, D.int IntKind.u8 1, D.int IntKind.u8 1, D.int IntKind.u8 1, D.int IntKind.u8 1, D.int IntKind.u8 1, D.int IntKind.u8 1, D.int IntKind.u8 1, D.int IntKind.u8 1, D.int IntKind.u8 1, D.int IntKind.u8 1, D.int IntKind.u8 1, D.int IntKind.u8 1, D.int IntKind.u8 1, D.int IntKind.u8 1, D.int IntKind.u8 1, D.int IntKind.u8 1, D.int IntKind.u8 1, D.int IntKind.u8 1, D.int IntKind.u8 1, D.int IntKind.u8 1, D.int IntKind.u8 1, D.int IntKind.u8 1, D.int IntKind.u8 1, D.int IntKind.u8 1, D.int IntKind.u8 1, D.int IntKind.u8 1, D.int IntKind.u8 1, D.int IntKind.u8 1, D.int IntKind.u8 1, D.int IntKind.u8 1, D.int IntKind.u8 1, D.int IntKind.u8 1, D.int IntKind.u8 1, D.int IntKind.u8 1]])
def fs_F8 (_n : Int) (_fl : List D) : Frame' := mkF 104 [(4, .dat (.bool true)), (5, AV.ptr (s61) 0 0 []), (77, .dat (.bool true)), (78, .dat (.bool true)), (81, .dat (.bool true)), (82, .dat (.bool true)), (83, .dat (.bool true)), (86, .dat (.bool true)), (87, .dat (.bool true)), (88, .dat (.bool true)), (91, .dat (.bool true)), (92, .dat (.bool true)), (93, .dat (.bool true)), (97, .dat (.bool true)), (98, .dat (.bool true)), (99, .dat (.bool true)), (102, .dat (.bool true)), (103, .dat (.bool true))]
def fs_T8 (n : Int) (fl : List D) : Store := [{ sh := s61, dyn := false, frz := false, v := AV.agg [AV.sref (Sh.arr Sh.one 128) 1 3 [] 0 3, AV.fslc (s67) [], .dat (.int .i64 fs_w7v0), .dat (.bool false)] }, { sh := Sh.arr (Sh.arr Sh.one 128) 0, dyn := true, frz := false, v := .dat (.arr (Sh.arr Sh.one 128) (fs_w7v1 n fl)) }]
def fs_p7 (n : Int) (fl : List D) : Bool := crash_pre 3 3 (fs_w5v0 n fl) (fs_w5v1 n fl) [] && flush_pre 3 3 (write_v1 3 [] (fillZ 1) 0 false) (crash_v0 (fs_w5v0 n fl) (fs_w5v1 n fl) [])
theorem fs_s7 (n : Int) (fl : List D) (K : Kt) : ex (Env.rebase (fs_E) 0) [4] (sqR 7 (bodyOf Try.f6)) [] [4] (fs_F7 n fl) (fs_T7 n fl) K = (cond (fs_p7 n fl) (ex (Env.rebase (fs_E) 0) [4] (sqR 8 (bodyOf Try.f6)) [] [4] (fs_F8 n fl) (fs_T8 n fl) K) none) := (seg_str (c := (sqR 7 (bodyOf Try.f6))) (a := sqA (sqR 7 (bodyOf Try.f6))) (b := (sqR 8 (bodyOf Try.f6))) (by kernel_rfl) (by kernel_rfl) (by kernel_rfl) (fs_q7 n fl) K).trans (condC (seqK_normal (by kernel_rfl) (by kernel_rfl)))
theorem fs_q8 (n : Int) (fl : List D) (K : Kt) : ex (Env.rebase (fs_E) 0) [4] (sqR 8 (bodyOf Try.f6)) [] [4] (fs_F8 n fl) (fs_T8 n fl) K = K (Exit.ret) (mkF 104 [(4, .dat (.bool true))]) ([{ sh := s61, dyn := false, frz := false, v := AV.agg [AV.sref (Sh.arr Sh.one 128) 1 3 [] 0 3, AV.fslc (s67) [], .dat (.int .i64 fs_w7v0), .dat (.bool false)] }, { sh := Sh.arr (Sh.arr Sh.one 128) 0, dyn := true, frz := false, v := .dat (.arr (Sh.arr Sh.one 128) (fs_w7v1 n fl)) }]) := by kernel_rfl
theorem fs_s8 (n : Int) (fl : List D) (K : Kt) : ex (Env.rebase (fs_E) 0) [4] (sqR 8 (bodyOf Try.f6)) [] [4] (fs_F8 n fl) (fs_T8 n fl) K = K (Exit.ret) (mkF 104 [(4, .dat (.bool true))]) ([{ sh := s61, dyn := false, frz := false, v := AV.agg [AV.sref (Sh.arr Sh.one 128) 1 3 [] 0 3, AV.fslc (s67) [], .dat (.int .i64 fs_w7v0), .dat (.bool false)] }, { sh := Sh.arr (Sh.arr Sh.one 128) 0, dyn := true, frz := false, v := .dat (.arr (Sh.arr Sh.one 128) (fs_w7v1 n fl)) }]) := (fs_q8 n fl K).trans rfl
theorem fs_e8_0 (n : Int) (fl : List D) : (finK (fs_E) true Try.f6 (callFin [] [])) (Exit.ret) (mkF 104 [(4, .dat (.bool true))]) ([{ sh := s61, dyn := false, frz := false, v := AV.agg [AV.sref (Sh.arr Sh.one 128) 1 3 [] 0 3, AV.fslc (s67) [], .dat (.int .i64 fs_w7v0), .dat (.bool false)] }, { sh := Sh.arr (Sh.arr Sh.one 128) 0, dyn := true, frz := false, v := .dat (.arr (Sh.arr Sh.one 128) (fs_w7v1 n fl)) }]) = some (([.dat (.bool true)], []) : Res) := by kernel_rfl
def C_fs : FunT := fun args σ => match args, σ with
  | [AV.dat (D.int IntKind.u8 n), AV.dat (D.slc Sh.one fl)], [] => .chk (fs_p5 n fl) (.chk (fs_p6 n) (.chk (fs_p7 n fl) (.leaf ([AV.dat (D.bool true)], []))))
  | _, _ => .fail
theorem fs_case0 (n : Int) (fl : List D) : runF (envOf tab SpF [] [(7, L_fu)] HF) true Try.f6 [.dat (.int .u8 n), .dat (.slc .one fl)] [] = FunT.run C_fs [.dat (.int .u8 n), .dat (.slc .one fl)] [] := ((fs_start n fl).trans ((fs_s0 n fl _).trans ((fs_s1 n fl _).trans ((fs_s2 n fl _).trans ((fs_s3 n fl _).trans ((fs_s4 n fl _).trans ((fs_s5 n fl _).trans (condC ((fs_s6 n fl _).trans (condC ((fs_s7 n fl _).trans (condC ((fs_s8 n fl _).trans (fs_e8_0 n fl)))))))))))))).trans (by kernel_rfl)
theorem cfs_ok : FunOk Try.prog 6 (FunT.run C_fs) := by
  refine fun_ok (E := fs_E) (fz := true) (fn := Try.f6) (envOf_ok progOk SpF_ok) (by kernel_rfl) (by kernel_rfl) (loops_one (by kernel_rfl) (fu_loopOk _ rfl)) ?_
  intro args σ r h
  unfold C_fs at h
  split at h
  · exact (fs_case0 _ _).trans h
  · simp [T.run_fail] at h
end Go.Proofs.Ythhipekbkodjoaa
