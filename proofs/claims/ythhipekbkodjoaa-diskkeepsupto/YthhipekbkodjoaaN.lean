/- Seat 07: is a disk as told? Closed. -/
import Derived.Test.YthhipekbkodjoaaJ
import Derived.Test.YthhipekbkodjoaaL
namespace Go.Proofs.Ythhipekbkodjoaa
open Go.AX
set_option maxRecDepth 100000
def secB (d : D) : Bool := okSec d && isBytes (D.getL d)
def wtB (k : Nat) (w : D) : Bool := okWk k w && isBytes (wWas w)
def okAB (k j : Nat) (ws sf : List D) : Bool := decide (0 < k) && decide (k ≤ 100000) && decide (ws.length ≤ j) && decide (j ≤ 1000) && Nat.beq sf.length k && sf.all secB && ws.all (wtB k)
theorem secB_iff {d : D} : secB d = true ↔ secOk d := by
  constructor
  · intro h
    simp only [secB, okSec, Bool.and_eq_true, beq_iff_eq] at h
    obtain ⟨⟨h1, h2⟩, h3⟩ := h
    obtain ⟨l, rfl⟩ := okE_arr (s := .one) (d := d) h1
    exact ⟨l, rfl, h2, h3⟩
  · rintro ⟨l, rfl, h1, h2⟩
    simp only [secB, okSec, D.getL, h1, h2]
    rfl
theorem wtB_iff {k : Nat} {w : D} : wtB k w = true ↔ wtOk k w := by
  constructor
  · intro h
    simp only [wtB, okWk, okW, Bool.and_eq_true, beq_iff_eq, decide_eq_true_eq] at h
    obtain ⟨⟨⟨h1, h2⟩, h3, h4, h5⟩, h6⟩ := h
    obtain ⟨a, b, rfl, g1, g2⟩ := okE_agg2 h1
    obtain ⟨n, rfl⟩ := okE_int g1
    obtain ⟨l, rfl⟩ := okE_arr g2
    exact ⟨n, l, rfl, h3, h4, h2, h6⟩
  · rintro ⟨n, l, rfl, h1, h2, h3, h4⟩
    have e : wWas (.agg [.int .i64 n, .arr .one l]) = l := rfl
    have e2 : wAt (.agg [.int .i64 n, .arr .one l]) = n := rfl
    simp only [wtB, okWk, okW, e, e2, h3, h4, decide_eq_true h1, decide_eq_true h2, isBytes_fits h4]
    rfl
theorem okAB_iff {k j : Nat} {ws sf : List D} : okAB k j ws sf = true ↔ OkA k j ws sf := by
  simp only [okAB, Bool.and_eq_true, decide_eq_true_eq, List.all_eq_true, secB_iff, wtB_iff, Nat.beq_eq]
  constructor
  · rintro ⟨⟨⟨⟨⟨⟨h1, h2⟩, h3⟩, h4⟩, h5⟩, h6⟩, h7⟩
    exact ⟨⟨h1, h2⟩, h3, h4, h5, h6, h7⟩
  · rintro ⟨⟨h1, h2⟩, h3, h4, h5, h6, h7⟩
    exact ⟨⟨⟨⟨⟨⟨h1, h2⟩, h3⟩, h4⟩, h5⟩, h6⟩, h7⟩
abbrev smC (m k : Nat) (ws sf nw : List D) (u v : Bool) : Bool := Nat.beq m k && okAB k 1000 ws sf && D.eqbL nw (absN k ws sf) && (u == v)
theorem sm_closed (m k : Nat) (ws sf nw sa wa : List D) (f g : Int) (u v : Bool) (hc : smC m k ws sf nw u v = true) :
    ∃ z, (iterT (sm_step m k ws sf nw sa wa f g u v) z 0).run = T.run (.leaf (some 0, mkF 59 [(0, dP), (3, .ptr s32 2 0 [])], [dB m k ws f u, sB sf, xB nw sa wa g v])) := by
  simp only [smC, Bool.and_eq_true, okAB_iff, eqbL_iff, beq_iff_eq, Nat.beq_eq] at hc
  obtain ⟨⟨⟨rfl, h⟩, rfl⟩, rfl⟩ := hc
  refine iter_countFrom (a := 0) (n := m) (Nat.zero_le _) (fun i h0 hi => ?_) ?_
  · obtain ⟨g1, g2, g3, g4, g5, g6⟩ := op_read h (i : Int) u
    have hk := h.hk
    have hn := now_ok h (n := (i : Int)) (by omega) (by omega)
    unfold sm_step
    simp only [absN_len, decide_eq_true (show (i : Int) < (m : Int) by omega), g2, g3, g4, wrap_succ (show i < 2 ^ 62 by omega), Bool.not_true, Bool.false_or, Bool.true_and]
    cases ha : (able_v0 m (i : Int) u != 0) with
    | true => simp only [cond_true, cond_false, Bool.not_true, Bool.true_and, Bool.false_and, bne_self_eq_false, Bool.false_or, T.run_br, T.run_chk, T.run_leaf, decide_true]
    | false =>
      rw [ha, Bool.false_or] at g1 g5
      have e : (0 != able_v0 m (i : Int) u) = false := by
        rw [bne_eq_false_iff_eq] at ha ⊢; exact ha.symm
      simp only [e, g1, g5, seg_all _ (Nat.le_of_eq hn.1), cond_true, cond_false, Bool.not_false, Bool.true_and, Bool.false_and, Bool.false_or, T.run_br, T.run_chk, T.run_leaf, decide_true, Bool.not_true]
  · unfold sm_step
    simp only [absN_len, decide_eq_false (show ¬ (m : Int) < (m : Int) by omega)]
    rfl
def L_sm : Frame' → Store → T (Exit × Frame' × Store) := fun fr σ => match fr.getD 0 .undef, fr.getD 3 .undef, fr.getD 5 .undef, σ with
  | AV.ptr (Sh.agg [Sh.one, Sh.one, Sh.one, Sh.one]) 0 0 [], AV.ptr (Sh.agg [Sh.one, Sh.one, Sh.one, Sh.one, Sh.one]) 2 0 [], AV.dat (D.int IntKind.i64 0), [{ sh := Sh.agg [Sh.one, Sh.one, Sh.one, Sh.one], dyn := false, frz := false, v := AV.agg [AV.sref (Sh.arr Sh.one 128) 1 m [] 0 k, AV.dat (D.slc (Sh.agg [Sh.one, Sh.arr Sh.one 128]) ws), AV.dat (D.int IntKind.i64 f), AV.dat (D.bool u)] }, { sh := Sh.arr (Sh.arr Sh.one 128) 0, dyn := true, frz := false, v := AV.dat (D.arr (Sh.arr Sh.one 128) sf) }, { sh := Sh.agg [Sh.one, Sh.one, Sh.one, Sh.one, Sh.one], dyn := false, frz := false, v := AV.dat (D.agg [D.slc Sh.one nw, D.slc Sh.one sa, D.slc (Sh.agg [Sh.one, Sh.one]) wa, D.int IntKind.i64 g, D.bool v]) }] => .chk (Nat.beq fr.length 59 && (smC m k ws sf nw u v)) (T.bind (.leaf (some 0, mkF 59 [(0, dP), (3, .ptr s32 2 0 [])], [dB m k ws f u, sB sf, xB nw sa wa g v])) fun o => .leaf (outEx o.1, o.2.1, o.2.2))
  | _, _, _, _ => .fail
theorem sm_sem (lp : Loops) : ∀ fr σ p, (L_sm fr σ).run = some p → ∀ (K : Kt) r, K p.1 p.2.1 p.2.2 = some r → ∃ n, loopRun (envOf tab SpS [] lp []) Try.f21 0 σ.length n (cleanF (liveAt Try.f21 0) 0 fr) σ K = some r := by
  intro fr σ p h K r hK
  unfold L_sm at h
  split at h
  · rename_i m k ws f u sf nw sa wa g v g0 g3 g5
    obtain ⟨hc, h'⟩ := T.chk_some h
    rw [Bool.and_eq_true] at hc
    obtain ⟨hl, hc⟩ := hc
    obtain ⟨o, ho, h'⟩ := T.bind_some h'
    have hp := T.leaf_some h'
    subst hp
    obtain ⟨nF, hn⟩ : ∃ nF, (iterT (sm_step m k ws sf nw sa wa f g u v) nF (0)).run = T.run (.leaf (some 0, mkF 59 [(0, dP), (3, .ptr s32 2 0 [])], [dB m k ws f u, sB sf, xB nw sa wa g v])) := sm_closed m k ws sf nw sa wa f g u v hc
    rw [ho] at hn
    refine ⟨nF, ?_⟩
    have he : cleanF (liveAt Try.f21 0) 0 fr = sm_fr m k ws sf nw sa wa f g u v (0) := sm_enter m k ws sf nw sa wa f g u v _ fr hl g0 g3 g5
    refine (iter_ok (base := 3) (sm_hr lp m k ws sf nw sa wa f g u v) K nF (0) _ _ (by rw [clean_clean]; exact he) (by kernel_rfl)).trans ?_
    rw [T.k_run hn]
    exact hK
  · simp [T.run_fail] at h
theorem sm_loopOk {k : Nat} (lp : Loops) (hk : Loops.get lp 2 = some L_sm) : LoopOkN Try.prog k (envOf tab SpS [] lp []) (loopAt Try.f21 0).1 (loopAt Try.f21 0).2 := loop_okN (L := L_sm) (by kernel_rfl) hk (sm_sem lp)
def same_v0 (k : Nat) (ws : List D) (nw : List D) (wa : List D) (u : Bool) (v : Bool) : Bool := size_v0 k == (↑(List.length nw) : Int) && (off_v0 k u == v && waits_v0 k ws == (↑(List.length wa) : Int))
def same_pre (m : Nat) (k : Nat) (ws : List D) (sf : List D) (nw : List D) (wa : List D) (u : Bool) (v : Bool) : Bool := smC m k ws sf nw u v && (D.eqb (D.slc Sh.one nw) (D.slc Sh.one nw) && (!size_v0 k == (↑(List.length nw) : Int) || D.eqb (D.bool v) (D.bool v) && (!off_v0 k u == v || D.eqb (D.slc (Sh.agg [Sh.one, Sh.one]) wa) (D.slc (Sh.agg [Sh.one, Sh.one]) wa))))
def C_same : FunT := fun args σ => match args, σ with
  | [AV.ptr (Sh.agg [Sh.one, Sh.one, Sh.one, Sh.one]) 0 0 [], AV.dat (D.agg [D.slc Sh.one nw, D.slc Sh.one _, D.slc (Sh.agg [Sh.one, Sh.one]) wa, D.int IntKind.i64 _, D.bool v])], [{ sh := Sh.agg [Sh.one, Sh.one, Sh.one, Sh.one], dyn := false, frz := false, v := AV.agg [AV.sref (Sh.arr Sh.one 128) 1 m [] 0 k, AV.dat (D.slc (Sh.agg [Sh.one, Sh.arr Sh.one 128]) ws), AV.dat (D.int IntKind.i64 f), AV.dat (D.bool u)] }, { sh := Sh.arr (Sh.arr Sh.one 128) 0, dyn := true, frz := false, v := AV.dat (D.arr (Sh.arr Sh.one 128) sf) }] => .chk ((same_pre m k ws sf nw wa u v)) (.leaf ([AV.dat (D.bool (same_v0 k ws nw wa u v))], [{ sh := s61, dyn := false, frz := false, v := AV.agg [AV.sref (Sh.arr Sh.one 128) 1 m [] 0 k, AV.dat (D.slc (s67) ws), AV.dat (D.int IntKind.i64 f), AV.dat (D.bool u)] }, { sh := Sh.arr (Sh.arr Sh.one 128) 0, dyn := true, frz := false, v := AV.dat (D.arr (Sh.arr Sh.one 128) sf) }]))
  | _, _ => .fail
theorem same_raw0 (m k : Nat) (ws sf nw sa wa : List D) (f g : Int) (u v : Bool) : runF (envOf tab SpS [] [(2, L_sm)] []) true Try.f21 [dP, .dat (.agg [.slc .one nw, .slc .one sa, .slc (.agg [.one, .one]) wa, .int .i64 g, .bool v])] [dB m k ws f u, sB sf] =
  (bif smC m k ws sf nw u v then
   (bif D.eqb (D.slc Sh.one nw) (D.slc Sh.one nw) && true then
    (bif size_v0 k == (↑(List.length nw) : Int) then
     (bif D.eqb (D.bool v) (D.bool v) && true then
      (bif false != (off_v0 k u == v) then
       (bif D.eqb (D.slc (Sh.agg [Sh.one, Sh.one]) wa) (D.slc (Sh.agg [Sh.one, Sh.one]) wa) && true then some ([.dat (.bool (waits_v0 k ws == (↑(List.length wa) : Int)))], [{ sh := s61, dyn := false, frz := false, v := AV.agg [AV.sref (Sh.arr Sh.one 128) 1 m [] 0 k, .dat (.slc (s67) ws), .dat (.int .i64 f), .dat (.bool u)] }, { sh := Sh.arr (Sh.arr Sh.one 128) 0, dyn := true, frz := false, v := .dat (.arr (Sh.arr Sh.one 128) sf) }]) else none) else some ([.dat (.bool false)], [{ sh := s61, dyn := false, frz := false, v := AV.agg [AV.sref (Sh.arr Sh.one 128) 1 m [] 0 k, .dat (.slc (s67) ws), .dat (.int .i64 f), .dat (.bool u)] }, { sh := Sh.arr (Sh.arr Sh.one 128) 0, dyn := true, frz := false, v := .dat (.arr (Sh.arr Sh.one 128) sf) }])) else none) else some ([.dat (.bool false)], [{ sh := s61, dyn := false, frz := false, v := AV.agg [AV.sref (Sh.arr Sh.one 128) 1 m [] 0 k, .dat (.slc (s67) ws), .dat (.int .i64 f), .dat (.bool u)] }, { sh := Sh.arr (Sh.arr Sh.one 128) 0, dyn := true, frz := false, v := .dat (.arr (Sh.arr Sh.one 128) sf) }])) else none) else none) := by kernel_rfl
theorem same_case0 (m k : Nat) (ws sf nw sa wa : List D) (f g : Int) (u v : Bool) : runF (envOf tab SpS [] [(2, L_sm)] []) true Try.f21 [dP, .dat (.agg [.slc .one nw, .slc .one sa, .slc (.agg [.one, .one]) wa, .int .i64 g, .bool v])] [dB m k ws f u, sB sf] = FunT.run C_same [dP, .dat (.agg [.slc .one nw, .slc .one sa, .slc (.agg [.one, .one]) wa, .int .i64 g, .bool v])] [dB m k ws f u, sB sf] := (same_raw0 m k ws sf nw sa wa f g u v).trans (by
  show _ = (cond (smC m k ws sf nw u v && (D.eqb (D.slc Sh.one nw) (D.slc Sh.one nw) && (!size_v0 k == (↑(List.length nw) : Int) || D.eqb (D.bool v) (D.bool v) && (!off_v0 k u == v || D.eqb (D.slc (Sh.agg [Sh.one, Sh.one]) wa) (D.slc (Sh.agg [Sh.one, Sh.one]) wa))))) (some (([.dat (.bool (size_v0 k == (↑(List.length nw) : Int) && (off_v0 k u == v && waits_v0 k ws == (↑(List.length wa) : Int))))], [{ sh := s61, dyn := false, frz := false, v := AV.agg [AV.sref (Sh.arr Sh.one 128) 1 m [] 0 k, .dat (.slc (s67) ws), .dat (.int .i64 f), .dat (.bool u)] }, { sh := Sh.arr (Sh.arr Sh.one 128) 0, dyn := true, frz := false, v := .dat (.arr (Sh.arr Sh.one 128) sf) }]) : Res)) none)
  generalize (D.eqb (D.slc (Sh.agg [Sh.one, Sh.one]) wa) (D.slc (Sh.agg [Sh.one, Sh.one]) wa)) = z0
  generalize (size_v0 k == (↑(List.length nw) : Int)) = z1
  generalize (off_v0 k u == v) = z2
  generalize (smC m k ws sf nw u v) = z3
  generalize (D.eqb (D.slc Sh.one nw) (D.slc Sh.one nw)) = z4
  generalize (D.eqb (D.bool v) (D.bool v)) = z5
  cases z3 with
  | true =>
   cases z4 with
   | true =>
    cases z1 with
    | true =>
     cases z5 with
     | true =>
      cases z2 with
      | true =>
       cases z0 with
       | true =>
        rfl
       | false =>
        rfl
      | false =>
       rfl
     | false =>
      rfl
    | false =>
     rfl
   | false =>
    rfl
  | false =>
   rfl
  )
theorem csame_ok : FunOk Try.prog 21 (FunT.run C_same) := by
  refine fun_ok (E := envOf tab SpS [] [(2, L_sm)] []) (fz := true) (fn := Try.f21) (envOf_ok progOk SpS_ok) (by kernel_rfl) (by kernel_rfl) (loops_one (by kernel_rfl) (sm_loopOk _ rfl)) ?_
  intro args σ r h
  unfold C_same at h
  split at h
  · exact (same_case0 _ _ _ _ _ _ _ _ _ _ _).trans h
  · simp [T.run_fail] at h
end Go.Proofs.Ythhipekbkodjoaa
