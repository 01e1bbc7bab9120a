/- Seat 07: DiskTells' loop, closed. -/
import Derived.Test.YthhipekbkodjoaaO
import Derived.Test.YthhipekbkodjoaaP
namespace Go.Proofs.Ythhipekbkodjoaa
open Go.AX
set_option maxRecDepth 100000
abbrev dtO (k : Nat) (a : A) : LOut := (some 0, mkF 176 [(5, dP), (7, .ptr s32 2 0 [])], [dB k k a.1 a.2.2.1 a.2.2.2, sB a.2.1, xB (absN k a.1 a.2.1) (absS a.2.1) (a.1.map wTo) a.2.2.1 a.2.2.2])
theorem dt_closed (m k : Nat) (l ws sf nw sa wa : List D) (f g : Int) (u v : Bool) (hc : ruC m k l ws sf nw sa wa f g u v = true) :
    ∃ z, (iterT (dt_step m k l) z (0, ws, sf, nw, sa, wa, f, g, u, v)).run = T.run (.leaf (dtO k (runA k l (ws, sf, f, u) (min l.length 60)))) := by
  simp only [ruC, Bool.and_eq_true, okAB_iff, eqbL_iff, beq_iff_eq, Nat.beq_eq] at hc
  obtain ⟨⟨⟨⟨⟨⟨⟨rfl, h⟩, rfl⟩, rfl⟩, rfl⟩, rfl⟩, rfl⟩, hl⟩ := hc
  refine iter_range (n := min l.length 60) (fun i => absT m (runA m l (ws, sf, f, u) i)) (fun i hi => ?_) ?_
  · have hA := runA_ok (a := (ws, sf, f, u)) h hl i (by omega) (by omega)
    rw [runA]
    generalize runA m l (ws, sf, f, u) i = a at *
    clear h
    obtain ⟨ws, sf, f, u⟩ := a
    have hw := List.all_eq_true.1 hl _ (nthD_mem (show i < l.length by omega))
    simp only [okDeed, Bool.and_eq_true] at hw
    obtain ⟨w1, w2, w3, w4, w5, w6, w7, w8⟩ := op_write hA (by omega) (okU8_bytes hw.2) f (kn (nthD l i)) u
    obtain ⟨f1, f2, f3, f4, f5, f6, f7, f8⟩ := op_flush hA f u
    obtain ⟨c1, c2, c3, c4, c5⟩ := op_crash hA hw.2
    obtain ⟨g1, g2, g3, g4, g5, g6⟩ := op_read hA (kn (nthD l i)) u
    have hm := made_pos hA.hk.1
    unfold dt_step deedA absT
    simp only [Int.toNat_natCast, decide_eq_true (show (i : Int) < (l.length : Int) by omega), decide_eq_true (show (i : Int) < 60 by omega), decide_eq_true (show (0 : Int) ≤ (i : Int) by omega), decide_eq_true (show i < l.length by omega), hw.1, w1, w2, w3, w4, w5, w6, w7, f1, f2, f4, f5, f6, f7, c1, c2, c3, g2, g3, g4, hm, op_fuse hA.hk.1 f, wrap_succ (show i < 2 ^ 62 by omega), Bool.not_true, Bool.false_or, Bool.true_and, Bool.and_true, cond_true, bne_self_eq_false]
    cases kd (nthD l i) == 0 with
    | true => rfl
    | false =>
      cases kd (nthD l i) == 1 with
      | true =>
        simp only [cond_true, cond_false, f3]
        have e1 : (bif able_v0 m 0 u != 0 then able_v0 m 0 u != flE m f u else burns_v0 f && 15 != flE m f u) = false := by
          unfold flE
          cases hb : (able_v0 m 0 u != 0) with
          | true => simp only [cond_true, bne_self_eq_false]
          | false => cases burns_v0 f <;> rfl
        have e2 : (!(able_v0 m 0 u != 0) && (!burns_v0 f && (0 != flE m f u))) = false := by
          unfold flE
          cases hb : (able_v0 m 0 u != 0) with
          | true => rfl
          | false => cases burns_v0 f <;> rfl
        simp only [e1, e2, Bool.not_false, Bool.true_and, Bool.and_false]
        rfl
      | false =>
        cases kd (nthD l i) == 2 with
        | true => rfl
        | false =>
          cases kd (nthD l i) == 3 with
          | true =>
            simp only [cond_true, cond_false, c4]
            rfl
          | false =>
            cases ha : (able_v0 m (kn (nthD l i)) u != 0) with
            | true => simp only [cond_true, cond_false, decide_true]; rfl
            | false =>
              rw [ha, Bool.false_or] at g1 g5 g6
              have e : (0 != able_v0 m (kn (nthD l i)) u) = false := by
                rw [bne_eq_false_iff_eq] at ha ⊢; exact ha.symm
              simp only [e, g1, g5, seg_all _ (Nat.le_of_eq (beq_iff_eq.1 g6)), cond_false, decide_true]
              rfl
  · unfold dt_step
    by_cases h2 : l.length < 60
    · rw [show min l.length 60 = l.length by omega]
      simp only [decide_eq_false (show ¬ (l.length : Int) < (l.length : Int) by omega)]
      rfl
    · rw [show min l.length 60 = 60 by omega]
      simp only [decide_eq_false (show ¬ ((60 : Nat) : Int) < 60 by omega), Bool.not_false, Bool.or_true, Bool.true_or, T.run_chk, T.run_br, cond_true]
      rfl
def L_dt : Frame' → Store → T (Exit × Frame' × Store) := fun fr σ => match fr.getD 1 .undef, fr.getD 5 .undef, fr.getD 7 .undef, fr.getD 8 .undef, σ with
  | AV.dat (D.slc (Sh.agg [Sh.one, Sh.one, Sh.one]) l), AV.ptr (Sh.agg [Sh.one, Sh.one, Sh.one, Sh.one]) 0 0 [], AV.ptr (Sh.agg [Sh.one, Sh.one, Sh.one, Sh.one, Sh.one]) 2 0 [], AV.dat (D.int IntKind.i64 0), [{ sh := Sh.agg [Sh.one, Sh.one, Sh.one, Sh.one], dyn := false, frz := false, v := AV.agg [AV.sref (Sh.arr Sh.one 128) 1 m [] 0 k, AV.dat (D.slc (Sh.agg [Sh.one, Sh.arr Sh.one 128]) ws), AV.dat (D.int IntKind.i64 f), AV.dat (D.bool u)] }, { sh := Sh.arr (Sh.arr Sh.one 128) 0, dyn := true, frz := false, v := AV.dat (D.arr (Sh.arr Sh.one 128) sf) }, { sh := Sh.agg [Sh.one, Sh.one, Sh.one, Sh.one, Sh.one], dyn := false, frz := false, v := AV.dat (D.agg [D.slc Sh.one nw, D.slc Sh.one sa, D.slc (Sh.agg [Sh.one, Sh.one]) wa, D.int IntKind.i64 g, D.bool v]) }] => .chk (Nat.beq fr.length 176 && (ruC m k l ws sf nw sa wa f g u v)) (T.bind (.leaf (dtO k (runA k l (ws, sf, f, u) (min l.length 60)))) fun o => .leaf (outEx o.1, o.2.1, o.2.2))
  | _, _, _, _, _ => .fail
theorem dt_sem (lp : Loops) : ∀ fr σ p, (L_dt fr σ).run = some p → ∀ (K : Kt) r, K p.1 p.2.1 p.2.2 = some r → ∃ n, loopRun (envOf tab SpT [] lp HT) Try.f3 0 σ.length n (cleanF (liveAt Try.f3 0) 0 fr) σ K = some r := by
  intro fr σ p h K r hK
  unfold L_dt at h
  split at h
  · rename_i l m k ws f u sf nw sa wa g v g1 g5 g7 g8
    obtain ⟨hc, h'⟩ := T.chk_some h
    rw [Bool.and_eq_true] at hc
    obtain ⟨hl, hc⟩ := hc
    obtain ⟨o, ho, h'⟩ := T.bind_some h'
    have hp := T.leaf_some h'
    subst hp
    obtain ⟨nF, hn⟩ : ∃ nF, (iterT (dt_step m k l) nF ((0, ws, sf, nw, sa, wa, f, g, u, v))).run = T.run (.leaf (dtO k (runA k l (ws, sf, f, u) (min l.length 60)))) := dt_closed m k l ws sf nw sa wa f g u v hc
    rw [ho] at hn
    refine ⟨nF, ?_⟩
    have he : cleanF (liveAt Try.f3 0) 0 fr = dt_fr m k l ((0, ws, sf, nw, sa, wa, f, g, u, v)) := dt_enter m k l _ _ _ _ _ _ _ _ _ _ fr hl g1 g5 g7 g8
    refine (iter_ok (base := 3) (dt_hr lp m k l) K nF ((0, ws, sf, nw, sa, wa, f, g, u, v)) _ _ (by rw [clean_clean]; exact he) (by kernel_rfl)).trans ?_
    rw [T.k_run hn]
    exact hK
  · simp [T.run_fail] at h
theorem dt_loopOk {k : Nat} (lp : Loops) (hk : Loops.get lp 10 = some L_dt) : LoopOkN Try.prog k (envOf tab SpT [] lp HT) (loopAt Try.f3 0).1 (loopAt Try.f3 0).2 := loop_okN (L := L_dt) (by kernel_rfl) hk (dt_sem lp)
end Go.Proofs.Ythhipekbkodjoaa
