/- Seat 07: deeds, done to a disk and to the document's, closed. -/
import Derived.Test.YthhipekbkodjoaaN
namespace Go.Proofs.Ythhipekbkodjoaa
open Go.AX
set_option maxRecDepth 100000
abbrev kd (w : D) : Int := D.getI (nthD (D.getL w) 0)
abbrev kn (w : D) : Int := D.getI (nthD (D.getL w) 1)
abbrev kb (w : D) : List D := D.getL (nthD (D.getL w) 2)
def okDeed (w : D) : Bool := okE (.agg [.int .i64, .int .i64, .slc .one]) w && (kb w).all okU8
abbrev A := List D × List D × Int × Bool
def deedA (k : Nat) (w : D) (a : A) : A :=
  bif kd w == 0 then (write_v1 k a.1 (kb w) (kn w) a.2.2.2, a.2.1, write_v2 k (kb w) a.2.2.1 (kn w) a.2.2.2, write_v3 k (kb w) a.2.2.1 (kn w) a.2.2.2) else
  bif kd w == 1 then (flW k a.1 a.2.2.1 a.2.2.2, flS k a.1 a.2.1 a.2.2.1 a.2.2.2, flF k a.2.2.1 a.2.2.2, flU k a.2.2.1 a.2.2.2) else
  bif kd w == 2 then (a.1, a.2.1, fuse_v0 k a.2.2.1 (kn w), a.2.2.2) else
  bif kd w == 3 then ([], crash_v0 a.1 a.2.1 (kb w), -1, false) else a
def runA (k : Nat) (l : List D) (a : A) : Nat → A
  | 0 => a
  | i + 1 => deedA k (nthD l i) (runA k l a i)
theorem okU8_bytes {b : List D} (h : b.all okU8 = true) : isBytes b = true := by
  unfold isBytes
  rw [List.all_eq_true] at h ⊢
  intro d hd
  have := h d hd
  simp only [okU8, Bool.and_eq_true] at this
  exact this.1
theorem deedA_ok {k j : Nat} {w : D} {a : A} (h : OkA k j a.1 a.2.1) (hj : j + 1 ≤ 1000) (hw : okDeed w = true) : OkA k (j + 1) (deedA k w a).1 (deedA k w a).2.1 := by
  obtain ⟨ws, sf, f, u⟩ := a
  simp only [okDeed, Bool.and_eq_true] at hw
  unfold deedA
  cases kd w == 0 with
  | true => exact (op_write h hj (okU8_bytes hw.2) f (kn w) u).2.2.2.2.2.2.2
  | false =>
    cases kd w == 1 with
    | true => exact (op_flush h f u).2.2.2.2.2.2.2.le (by omega) hj
    | false =>
      cases kd w == 2 with
      | true => exact h.le (by omega) hj
      | false =>
        cases kd w == 3 with
        | true => exact (op_crash h hw.2).2.2.2.2.le (by omega) hj
        | false => exact h.le (by omega) hj
theorem runA_ok {k j : Nat} {l : List D} {a : A} (h : OkA k j a.1 a.2.1) (hl : l.all okDeed = true) : ∀ i, i ≤ l.length → j + i ≤ 1000 → OkA k (j + i) (runA k l a i).1 (runA k l a i).2.1
  | 0, _, _ => h
  | i + 1, hi, hj => deedA_ok (runA_ok h hl i (by omega) (by omega)) (by omega) (List.all_eq_true.1 hl _ (nthD_mem (by omega)))
abbrev absT (k : Nat) (a : A) : List D × List D × List D × List D × List D × Int × Int × Bool × Bool := (a.1, a.2.1, absN k a.1 a.2.1, absS a.2.1, a.1.map wTo, a.2.2.1, a.2.2.1, a.2.2.2, a.2.2.2)
abbrev ruC (m k : Nat) (l ws sf nw sa wa : List D) (f g : Int) (u v : Bool) : Bool := Nat.beq m k && okAB k 900 ws sf && D.eqbL nw (absN k ws sf) && D.eqbL sa (absS sf) && D.eqbL wa (ws.map wTo) && (f == g) && (u == v) && l.all okDeed
theorem ru_closed (m k : Nat) (l ws sf nw sa wa : List D) (f g : Int) (u v : Bool) (hc : ruC m k l ws sf nw sa wa f g u v = true) :
    ∃ z, (iterT (ru_step m k l) z (0, ws, sf, nw, sa, wa, f, g, u, v)).run = T.run (.leaf (some 0, mkF 94 [(4, .ptr s32 2 0 []), (6, .ptr s32 3 0 [])], [dB m k (runA k l (ws, sf, f, u) (min l.length 40)).1 (runA k l (ws, sf, f, u) (min l.length 40)).2.2.1 (runA k l (ws, sf, f, u) (min l.length 40)).2.2.2, sB (runA k l (ws, sf, f, u) (min l.length 40)).2.1, xB (absN k (runA k l (ws, sf, f, u) (min l.length 40)).1 (runA k l (ws, sf, f, u) (min l.length 40)).2.1) (absS (runA k l (ws, sf, f, u) (min l.length 40)).2.1) ((runA k l (ws, sf, f, u) (min l.length 40)).1.map wTo) (runA k l (ws, sf, f, u) (min l.length 40)).2.2.1 (runA k l (ws, sf, f, u) (min l.length 40)).2.2.2, zB])) := by
  simp only [ruC, Bool.and_eq_true, okAB_iff, eqbL_iff, beq_iff_eq, Nat.beq_eq] at hc
  obtain ⟨⟨⟨⟨⟨⟨⟨rfl, h⟩, rfl⟩, rfl⟩, rfl⟩, rfl⟩, rfl⟩, hl⟩ := hc
  refine iter_range (n := min l.length 40) (fun i => absT m (runA m l (ws, sf, f, u) i)) (fun i hi => ?_) ?_
  · have hA := runA_ok (a := (ws, sf, f, u)) h hl i (by omega) (by omega)
    rw [runA]
    generalize runA m l (ws, sf, f, u) i = a at *
    clear h
    obtain ⟨ws, sf, f, u⟩ := a
    have hw := List.all_eq_true.1 hl _ (nthD_mem (show i < l.length by omega))
    simp only [okDeed, Bool.and_eq_true] at hw
    obtain ⟨w1, w2, w3, w4, w5, w6, w7, w8⟩ := op_write hA (by omega) (okU8_bytes hw.2) f (kn (nthD l i)) u
    obtain ⟨f1, f2, f3, f4, f5, f6, f7, f8⟩ := op_flush hA f u
    obtain ⟨c1, c2, c3, c4, c5⟩ := op_crash hA hw.2
    have hm := made_pos hA.hk.1
    unfold ru_step deedA absT
    simp only [Int.toNat_natCast, decide_eq_true (show (i : Int) < (l.length : Int) by omega), decide_eq_true (show (i : Int) < 40 by omega), decide_eq_true (show (0 : Int) ≤ (i : Int) by omega), decide_eq_true (show i < l.length by omega), hw.1, w1, w2, w3, w4, w5, w6, f1, f2, f4, f5, f6, c1, c2, c3, hm, op_fuse hA.hk.1 f, wrap_succ (show i < 2 ^ 62 by omega), Bool.not_true, Bool.false_or, Bool.true_and, Bool.and_true, Bool.or_true, cond_true]
    cases kd (nthD l i) == 0 with
    | true => rfl
    | false =>
      cases kd (nthD l i) == 1 with
      | true =>
        simp only [cond_true, cond_false, f3]
        rfl
      | false =>
        cases kd (nthD l i) == 2 with
        | true => rfl
        | false =>
          cases kd (nthD l i) == 3 with
          | true =>
            simp only [cond_true, cond_false, c4]
            rfl
          | false => rfl
  · unfold ru_step
    by_cases h2 : l.length < 40
    · rw [show min l.length 40 = l.length by omega]
      simp only [decide_eq_false (show ¬ (l.length : Int) < (l.length : Int) by omega)]
      rfl
    · rw [show min l.length 40 = 40 by omega]
      simp only [decide_eq_false (show ¬ ((40 : Nat) : Int) < 40 by omega), Bool.not_false, Bool.or_true, Bool.true_or, T.run_chk, T.run_br, cond_true]
      rfl
def L_ru : Frame' → Store → T (Exit × Frame' × Store) := fun fr σ => match fr.getD 0 .undef, fr.getD 2 .undef, fr.getD 4 .undef, fr.getD 6 .undef, fr.getD 7 .undef, σ with
  | AV.ptr (Sh.agg [Sh.one, Sh.one, Sh.one, Sh.one]) 0 0 [], AV.dat (D.slc (Sh.agg [Sh.one, Sh.one, Sh.one]) l), AV.ptr (Sh.agg [Sh.one, Sh.one, Sh.one, Sh.one, Sh.one]) 2 0 [], AV.ptr (Sh.agg [Sh.one, Sh.one, Sh.one, Sh.one, Sh.one]) 3 0 [], AV.dat (D.int IntKind.i64 0), [{ sh := Sh.agg [Sh.one, Sh.one, Sh.one, Sh.one], dyn := false, frz := false, v := AV.agg [AV.sref (Sh.arr Sh.one 128) 1 m [] 0 k, AV.dat (D.slc (Sh.agg [Sh.one, Sh.arr Sh.one 128]) ws), AV.dat (D.int IntKind.i64 f), AV.dat (D.bool u)] }, { sh := Sh.arr (Sh.arr Sh.one 128) 0, dyn := true, frz := false, v := AV.dat (D.arr (Sh.arr Sh.one 128) sf) }, { sh := Sh.agg [Sh.one, Sh.one, Sh.one, Sh.one, Sh.one], dyn := false, frz := false, v := AV.dat (D.agg [D.slc Sh.one nw, D.slc Sh.one sa, D.slc (Sh.agg [Sh.one, Sh.one]) wa, D.int IntKind.i64 g, D.bool v]) }, { sh := Sh.agg [Sh.one, Sh.one, Sh.one, Sh.one, Sh.one], dyn := false, frz := false, v := AV.agg [AV.fslc Sh.one [], AV.fslc Sh.one [], AV.fslc (Sh.agg [Sh.one, Sh.one]) [], AV.dat (D.int IntKind.i64 0), AV.dat (D.bool false)] }] => .chk (Nat.beq fr.length 94 && (ruC m k l ws sf nw sa wa f g u v)) (T.bind (.leaf (some 0, mkF 94 [(4, .ptr s32 2 0 []), (6, .ptr s32 3 0 [])], [dB m k (runA k l (ws, sf, f, u) (min l.length 40)).1 (runA k l (ws, sf, f, u) (min l.length 40)).2.2.1 (runA k l (ws, sf, f, u) (min l.length 40)).2.2.2, sB (runA k l (ws, sf, f, u) (min l.length 40)).2.1, xB (absN k (runA k l (ws, sf, f, u) (min l.length 40)).1 (runA k l (ws, sf, f, u) (min l.length 40)).2.1) (absS (runA k l (ws, sf, f, u) (min l.length 40)).2.1) ((runA k l (ws, sf, f, u) (min l.length 40)).1.map wTo) (runA k l (ws, sf, f, u) (min l.length 40)).2.2.1 (runA k l (ws, sf, f, u) (min l.length 40)).2.2.2, zB])) fun o => .leaf (outEx o.1, o.2.1, o.2.2))
  | _, _, _, _, _, _ => .fail
theorem ru_sem (lp : Loops) : ∀ fr σ p, (L_ru fr σ).run = some p → ∀ (K : Kt) r, K p.1 p.2.1 p.2.2 = some r → ∃ n, loopRun (envOf tab SpR [] lp [(3, 0, [.frzAt 0 [1]])]) Try.f22 0 σ.length n (cleanF (liveAt Try.f22 0) 0 fr) σ K = some r := by
  intro fr σ p h K r hK
  unfold L_ru at h
  split at h
  · rename_i l m k ws f u sf nw sa wa g v g0 g2 g4 g6 g7
    obtain ⟨hc, h'⟩ := T.chk_some h
    rw [Bool.and_eq_true] at hc
    obtain ⟨hl, hc⟩ := hc
    obtain ⟨o, ho, h'⟩ := T.bind_some h'
    have hp := T.leaf_some h'
    subst hp
    obtain ⟨nF, hn⟩ : ∃ nF, (iterT (ru_step m k l) nF ((0, ws, sf, nw, sa, wa, f, g, u, v))).run = T.run (.leaf (some 0, mkF 94 [(4, .ptr s32 2 0 []), (6, .ptr s32 3 0 [])], [dB m k (runA k l (ws, sf, f, u) (min l.length 40)).1 (runA k l (ws, sf, f, u) (min l.length 40)).2.2.1 (runA k l (ws, sf, f, u) (min l.length 40)).2.2.2, sB (runA k l (ws, sf, f, u) (min l.length 40)).2.1, xB (absN k (runA k l (ws, sf, f, u) (min l.length 40)).1 (runA k l (ws, sf, f, u) (min l.length 40)).2.1) (absS (runA k l (ws, sf, f, u) (min l.length 40)).2.1) ((runA k l (ws, sf, f, u) (min l.length 40)).1.map wTo) (runA k l (ws, sf, f, u) (min l.length 40)).2.2.1 (runA k l (ws, sf, f, u) (min l.length 40)).2.2.2, zB])) := ru_closed m k l ws sf nw sa wa f g u v hc
    rw [ho] at hn
    refine ⟨nF, ?_⟩
    have he : cleanF (liveAt Try.f22 0) 0 fr = ru_fr m k l ((0, ws, sf, nw, sa, wa, f, g, u, v)) := ru_enter m k l _ _ _ _ _ _ _ _ _ _ fr hl g0 g2 g4 g6 g7
    refine (iter_ok (base := 4) (ru_hr lp m k l) K nF ((0, ws, sf, nw, sa, wa, f, g, u, v)) _ _ (by rw [clean_clean]; exact he) (by kernel_rfl)).trans ?_
    rw [T.k_run hn]
    exact hK
  · simp [T.run_fail] at h
theorem ru_loopOk {k : Nat} (lp : Loops) (hk : Loops.get lp 2 = some L_ru) : LoopOkN Try.prog k (envOf tab SpR [] lp [(3, 0, [.frzAt 0 [1]])]) (loopAt Try.f22 0).1 (loopAt Try.f22 0).2 := loop_okN (L := L_ru) (by kernel_rfl) hk (ru_sem lp)
def run_v0 (k : Nat) (l : List D) (ws : List D) (sf : List D) (f : Int) (u : Bool) : List D := absN k (Prod.fst (runA k l (ws, sf, f, u) (min (List.length l) 40))) (Prod.fst (Prod.snd (runA k l (ws, sf, f, u) (min (List.length l) 40))))
def run_v1 (k : Nat) (l : List D) (ws : List D) (sf : List D) (f : Int) (u : Bool) : List D := absS (Prod.fst (Prod.snd (runA k l (ws, sf, f, u) (min (List.length l) 40))))
def run_v2 (k : Nat) (l : List D) (ws : List D) (sf : List D) (f : Int) (u : Bool) : List D := List.map wTo (Prod.fst (runA k l (ws, sf, f, u) (min (List.length l) 40)))
def run_v3 (k : Nat) (l : List D) (ws : List D) (sf : List D) (f : Int) (u : Bool) : Int := Prod.fst (Prod.snd (Prod.snd (runA k l (ws, sf, f, u) (min (List.length l) 40))))
def run_v4 (k : Nat) (l : List D) (ws : List D) (sf : List D) (f : Int) (u : Bool) : Bool := Prod.snd (Prod.snd (Prod.snd (runA k l (ws, sf, f, u) (min (List.length l) 40))))
def run_v5 (k : Nat) (l : List D) (ws : List D) (sf : List D) (f : Int) (u : Bool) : List D := Prod.fst (Prod.snd (runA k l (ws, sf, f, u) (min (List.length l) 40)))
def C_run : FunT := fun args σ => match args, σ with
  | [AV.ptr (Sh.agg [Sh.one, Sh.one, Sh.one, Sh.one]) 0 0 [], AV.dat (D.agg [D.slc Sh.one nw, D.slc Sh.one sa, D.slc (Sh.agg [Sh.one, Sh.one]) wa, D.int IntKind.i64 g, D.bool v]), AV.dat (D.slc (Sh.agg [Sh.one, Sh.one, Sh.one]) l)], [{ sh := Sh.agg [Sh.one, Sh.one, Sh.one, Sh.one], dyn := false, frz := false, v := AV.agg [AV.sref (Sh.arr Sh.one 128) 1 m [] 0 k, AV.dat (D.slc (Sh.agg [Sh.one, Sh.arr Sh.one 128]) ws), AV.dat (D.int IntKind.i64 f), AV.dat (D.bool u)] }, { sh := Sh.arr (Sh.arr Sh.one 128) 0, dyn := true, frz := false, v := AV.dat (D.arr (Sh.arr Sh.one 128) sf) }] => .chk (ruC m k l ws sf nw sa wa f g u v) (.leaf ([AV.dat (D.agg [D.slc Sh.one (run_v0 k l ws sf f u), D.slc Sh.one (run_v1 k l ws sf f u), D.slc (Sh.agg [Sh.one, Sh.one]) (run_v2 k l ws sf f u), D.int IntKind.i64 (run_v3 k l ws sf f u), D.bool (run_v4 k l ws sf f u)])], [{ sh := s61, dyn := false, frz := false, v := AV.agg [AV.sref (Sh.arr Sh.one 128) 1 m [] 0 k, AV.dat (D.slc (s67) (Prod.fst (runA k l (ws, sf, f, u) (min (List.length l) 40)))), AV.dat (D.int IntKind.i64 (run_v3 k l ws sf f u)), AV.dat (D.bool (run_v4 k l ws sf f u))] }, { sh := Sh.arr (Sh.arr Sh.one 128) 0, dyn := true, frz := false, v := AV.dat (D.arr (Sh.arr Sh.one 128) (run_v5 k l ws sf f u)) }]))
  | _, _ => .fail
theorem run_raw0 (m k : Nat) (l ws sf nw sa wa : List D) (f g : Int) (u v : Bool) : runF (envOf tab SpR [] [(2, L_ru)] [(3, 0, [.frzAt 0 [1]])]) true Try.f22 [dP, .dat (.agg [.slc .one nw, .slc .one sa, .slc (.agg [.one, .one]) wa, .int .i64 g, .bool v]), .dat (.slc s36 l)] [dB m k ws f u, sB sf] =
  (bif ruC m k l ws sf nw sa wa f g u v then some ([.dat (.agg [D.slc Sh.one (absN k (Prod.fst (runA k l (ws, sf, f, u) (min (List.length l) 40))) (Prod.fst (Prod.snd (runA k l (ws, sf, f, u) (min (List.length l) 40))))), D.slc Sh.one (absS (Prod.fst (Prod.snd (runA k l (ws, sf, f, u) (min (List.length l) 40))))), D.slc (Sh.agg [Sh.one, Sh.one]) (List.map wTo (Prod.fst (runA k l (ws, sf, f, u) (min (List.length l) 40)))), D.int .i64 (Prod.fst (Prod.snd (Prod.snd (runA k l (ws, sf, f, u) (min (List.length l) 40))))), D.bool (Prod.snd (Prod.snd (Prod.snd (runA k l (ws, sf, f, u) (min (List.length l) 40)))))])], [{ sh := s61, dyn := false, frz := false, v := AV.agg [AV.sref (Sh.arr Sh.one 128) 1 m [] 0 k, .dat (.slc (s67) (Prod.fst (runA k l (ws, sf, f, u) (min (List.length l) 40)))), .dat (.int .i64 (Prod.fst (Prod.snd (Prod.snd (runA k l (ws, sf, f, u) (min (List.length l) 40)))))), .dat (.bool (Prod.snd (Prod.snd (Prod.snd (runA k l (ws, sf, f, u) (min (List.length l) 40))))))] }, { sh := Sh.arr (Sh.arr Sh.one 128) 0, dyn := true, frz := false, v := .dat (.arr (Sh.arr Sh.one 128) (Prod.fst (Prod.snd (runA k l (ws, sf, f, u) (min (List.length l) 40))))) }]) else none) := by kernel_rfl
theorem run_case0 (m k : Nat) (l ws sf nw sa wa : List D) (f g : Int) (u v : Bool) : runF (envOf tab SpR [] [(2, L_ru)] [(3, 0, [.frzAt 0 [1]])]) true Try.f22 [dP, .dat (.agg [.slc .one nw, .slc .one sa, .slc (.agg [.one, .one]) wa, .int .i64 g, .bool v]), .dat (.slc s36 l)] [dB m k ws f u, sB sf] = FunT.run C_run [dP, .dat (.agg [.slc .one nw, .slc .one sa, .slc (.agg [.one, .one]) wa, .int .i64 g, .bool v]), .dat (.slc s36 l)] [dB m k ws f u, sB sf] := (run_raw0 m k l ws sf nw sa wa f g u v).trans (by
  show _ = (cond (ruC m k l ws sf nw sa wa f g u v) (some (([.dat (.agg [D.slc Sh.one (absN k (Prod.fst (runA k l (ws, sf, f, u) (min (List.length l) 40))) (Prod.fst (Prod.snd (runA k l (ws, sf, f, u) (min (List.length l) 40))))), D.slc Sh.one (absS (Prod.fst (Prod.snd (runA k l (ws, sf, f, u) (min (List.length l) 40))))), D.slc (Sh.agg [Sh.one, Sh.one]) (List.map wTo (Prod.fst (runA k l (ws, sf, f, u) (min (List.length l) 40)))), D.int .i64 (Prod.fst (Prod.snd (Prod.snd (runA k l (ws, sf, f, u) (min (List.length l) 40))))), D.bool (Prod.snd (Prod.snd (Prod.snd (runA k l (ws, sf, f, u) (min (List.length l) 40)))))])], [{ sh := s61, dyn := false, frz := false, v := AV.agg [AV.sref (Sh.arr Sh.one 128) 1 m [] 0 k, .dat (.slc (s67) (Prod.fst (runA k l (ws, sf, f, u) (min (List.length l) 40)))), .dat (.int .i64 (Prod.fst (Prod.snd (Prod.snd (runA k l (ws, sf, f, u) (min (List.length l) 40)))))), .dat (.bool (Prod.snd (Prod.snd (Prod.snd (runA k l (ws, sf, f, u) (min (List.length l) 40))))))] }, { sh := Sh.arr (Sh.arr Sh.one 128) 0, dyn := true, frz := false, v := .dat (.arr (Sh.arr Sh.one 128) (Prod.fst (Prod.snd (runA k l (ws, sf, f, u) (min (List.length l) 40))))) }]) : Res)) none)
  generalize (ruC m k l ws sf nw sa wa f g u v) = z0
  cases z0 with
  | true =>
   rfl
  | false =>
   rfl
  )
theorem crun_ok : FunOk Try.prog 22 (FunT.run C_run) := by
  refine fun_ok (E := envOf tab SpR [] [(2, L_ru)] [(3, 0, [.frzAt 0 [1]])]) (fz := true) (fn := Try.f22) (envOf_ok progOk SpR_ok) (by kernel_rfl) (by kernel_rfl) (loops_one (by kernel_rfl) (ru_loopOk _ rfl)) ?_
  intro args σ r h
  unfold C_run at h
  split at h
  · exact (run_case0 _ _ _ _ _ _ _ _ _ _ _ _).trans h
  · simp [T.run_fail] at h
end Go.Proofs.Ythhipekbkodjoaa
