/- Seat 20: numbers out of bytes. -/
import Derived.Test.YtdmmobjegfhneaaG
namespace Go.Proofs.Ytdmmobjegfhneaa
open Go.AX
set_option maxRecDepth 100000
def C_rnumc : FunT := fun args σ => match args, σ with
  | [.dat (.slc .one ds), .dat (.int .u64 n), .dat (.int .i64 k)], [] => .chk (okNum ds n k && decide (n < 18446744073709551616)) (.leaf ([.sref .one 0 (ds.length + k.toNat) [] 0 (ds.length + k.toNat)], [mkDyn .one (ds ++ numB n k.toNat)]))
  | _, _ => .fail
theorem copy_zero (ds : List D) (K : Nat) (z : D) : (List.take (min ds.length (ds.length + K)) ds ++ List.drop (0 + min ds.length (ds.length + K)) (List.replicate (ds.length + K) z)) = ds ++ List.replicate K z := by
  rw [Nat.min_eq_left (by omega), List.take_of_length_le (Nat.le_refl _), Nat.zero_add, List.drop_replicate, Nat.add_sub_cancel_left]
theorem crnumc_ok : FunOk Try.prog 34 (FunT.run C_rnumc) := FunOk.of crnum_ok (fun args σ r h => by
  unfold C_rnumc at h
  split at h
  · rename_i ds n k
    obtain ⟨h1, h⟩ := T.chk_some h
    simp only [okNum, Bool.and_eq_true, decide_eq_true_eq] at h1
    obtain ⟨⟨h1, h2, h3, h4, h5⟩, h6⟩ := h1
    rw [← T.leaf_some h]
    obtain ⟨K, rfl⟩ := Int.eq_ofNat_of_zero_le (show 0 ≤ k by omega)
    have e1 : size_v0 (K : Int) = K := by unfold size_v0; rw [decide_eq_false (show ¬ (K : Int) < 1 by omega), decide_eq_false (show ¬ 8 < (K : Int) by omega)]; rfl
    have e2 : IntKind.wrap .i64 ((ds.length : Int) + (K : Int)) = ((ds.length + K : Nat) : Int) := by rw [IntKind.wrap_i64]; omega
    have e3 : IntKind.wrap .i64 (((ds.length + K : Nat) : Int) - 1) = ((ds.length + K : Nat) : Int) - 1 := by rw [IntKind.wrap_i64]; omega
    have e5 : rnum_pre ds n K = true := by
      unfold rnum_pre
      simp only [e1, e2, e3, h1, Int.toNat_natCast, copy_zero, List.length_replicate, Nat.beq_refl, Nat.add_sub_cancel_left, D.eqbL_self, decide_eq_true h2, decide_eq_true h6, decide_eq_true (show (0 : Int) ≤ ((ds.length + K : Nat) : Int) by omega), decide_eq_true (show ((ds.length + K : Nat) : Int) * 1 ≤ 35184372088832 by omega), decide_eq_true (show ((ds.length + K : Nat) : Int) ≤ 35184372088832 by omega), decide_eq_true (show ds.length < ds.length + K by omega), decide_eq_true (show ds.length + K ≤ 1099511627776 by omega), Bool.and_true, Int.le_refl, decide_true]
    show T.run (.chk (rnum_pre ds n K) _) = _
    unfold rnum_v0
    rw [e5, e1, e2, Int.toNat_natCast, Nat.add_sub_cancel_left]; rfl
  · simp [T.run_fail] at h)
abbrev okU8 (d : D) : Bool := okE (.int .u8) d && (decide (0 ≤ D.getI d) && decide (D.getI d ≤ 255))
def numV (l : List D) : Int := l.foldl (fun n d => n * 256 + D.getI d) 0
theorem numV_take {l : List D} {i : Nat} (h : i < l.length) : numV (l.take (i + 1)) = numV (l.take i) * 256 + D.getI (nthD l i) := by
  unfold numV
  rw [take_succ_nth h, List.foldl_append]; rfl
theorem numV_lt {l : List D} (h : l.all okU8 = true) : ∀ i : Nat, i ≤ l.length → 0 ≤ numV (l.take i) ∧ numV (l.take i) < 256 ^ i
  | 0, _ => by rw [List.take_zero]; exact ⟨Int.le_refl 0, by decide⟩
  | i + 1, hi => by
    obtain ⟨g1, g2⟩ := numV_lt h i (by omega)
    have hu := List.all_eq_true.1 h _ (nthD_mem (show i < l.length by omega))
    simp only [okU8, Bool.and_eq_true, decide_eq_true_eq] at hu
    rw [numV_take (by omega), Int.pow_succ]
    omega
theorem pow56 {i : Nat} (h : i < 8) : (256 : Int) ^ i ≤ 72057594037927936 := by
  have : i = 0 ∨ i = 1 ∨ i = 2 ∨ i = 3 ∨ i = 4 ∨ i = 5 ∨ i = 6 ∨ i = 7 := by omega
  rcases this with rfl | rfl | rfl | rfl | rfl | rfl | rfl | rfl <;> decide
theorem bv_or (a b : Nat) (ha : a < 2 ^ 56) (hb : b < 256) : (BitVec.ofNat 64 (a * 256) ||| BitVec.ofNat 64 b).toNat = a * 256 + b := by
  rw [BitVec.toNat_or, BitVec.toNat_ofNat, BitVec.toNat_ofNat, Nat.mod_eq_of_lt (by omega), Nat.mod_eq_of_lt (by omega)]
  have := Nat.shiftLeft_add_eq_or_of_lt (b := b) (i := 8) (by omega) a
  rw [Nat.shiftLeft_eq, show (2 : Nat) ^ 8 = 256 from rfl] at this
  omega
theorem or_eq {n x : Int} (h0 : 0 ≤ n) (h1 : n < 72057594037927936) (hx : 0 ≤ x) (hx' : x ≤ 255) : IntKind.wrap .u64 (BitVec.toNat (BitVec.ofInt 64 (IntKind.wrap .u64 (n * 256)) ||| BitVec.ofInt 64 (IntKind.wrap .u64 x)) : Int) = n * 256 + x := by
  obtain ⟨a, rfl⟩ := Int.eq_ofNat_of_zero_le h0
  obtain ⟨b, rfl⟩ := Int.eq_ofNat_of_zero_le hx
  have e1 : IntKind.wrap .u64 ((a : Int) * 256) = ((a * 256 : Nat) : Int) := by rw [IntKind.wrap_u64]; omega
  have e2 : IntKind.wrap .u64 (b : Int) = (b : Int) := by rw [IntKind.wrap_u64]; omega
  rw [e1, e2, BitVec.ofInt_natCast, BitVec.ofInt_natCast, bv_or a b (by omega) (by omega), IntKind.wrap_u64]
  omega
abbrev okNb (l : List D) : Bool := l.all okU8 && decide (l.length ≤ 8)
theorem sn_closed (l ds : List D) (f c : Int) (b : Bool) (hc : (decide (c = (l.length : Int)) && okNb l) = true) :
    ∃ z, (iterT (sn_step l ds f c b) z (0, 0)).run = T.run (.leaf (some 0, mkF 24 [(5, .dat (.int .u64 (numV l)))], [scB ds f b])) := by
  simp only [okNb, Bool.and_eq_true, decide_eq_true_eq] at hc
  obtain ⟨rfl, h1, h2⟩ := hc
  obtain ⟨z, hz⟩ := iter_range (step := sn_step l ds f l.length b) (n := l.length) (o := (some 0, mkF 24 [(5, .dat (.int .u64 (numV l)))], [scB ds f b])) (fun i => numV (l.take i)) (fun i hi => by
    obtain ⟨g1, g2⟩ := numV_lt h1 i (by omega)
    have g3 := pow56 (show i < 8 by omega)
    have hu := List.all_eq_true.1 h1 _ (nthD_mem hi)
    simp only [okU8, Bool.and_eq_true, decide_eq_true_eq] at hu
    unfold sn_step
    simp only [Int.toNat_natCast, decide_eq_true (show (i : Int) < (l.length : Int) by omega), decide_eq_true (show (0 : Int) ≤ (i : Int) by omega), decide_eq_true hi, hu.1, wrap_succ (show i < 2 ^ 62 by omega), or_eq g1 (by omega) hu.2.1 hu.2.2, numV_take hi, Bool.not_true, Bool.false_or, Bool.true_and, T.run_br, T.run_chk, T.run_leaf, cond_true, cond_false]) (by
    unfold sn_step
    simp only [decide_eq_false (show ¬ (l.length : Int) < (l.length : Int) by omega), List.take_length]
    rfl)
  exact ⟨z, hz⟩
def L_sn : Frame' → Store → T (Exit × Frame' × Store) := fun fr σ => match fr.getD 5 .undef, fr.getD 11 .undef, fr.getD 12 .undef, fr.getD 13 .undef, σ with
  | AV.dat (D.int IntKind.u64 0), AV.dat (D.slc Sh.one l), AV.dat (D.int IntKind.i64 c), AV.dat (D.int IntKind.i64 0), [{ sh := Sh.agg [Sh.one, Sh.one, Sh.one], dyn := false, frz := false, v := AV.dat (D.agg [D.slc Sh.one ds, D.int IntKind.i64 f, D.bool b]) }] => .chk (Nat.beq fr.length 24 && (decide (c = (l.length : Int)) && okNb l)) (T.bind (.leaf (some 0, mkF 24 [(5, .dat (.int .u64 (numV l)))], [scB ds f b])) fun o => .leaf (outEx o.1, o.2.1, o.2.2))
  | _, _, _, _, _ => .fail
theorem sn_sem (lp : Loops) : ∀ fr σ p, (L_sn fr σ).run = some p → ∀ (K : Kt) r, K p.1 p.2.1 p.2.2 = some r → ∃ n, loopRun (envOf tab SpF4 [] lp []) Try.f29 0 σ.length n (cleanF (liveAt Try.f29 0) 0 fr) σ K = some r := by
  intro fr σ p h K r hK
  unfold L_sn at h
  split at h
  · rename_i l c ds f b g5 g11 g12 g13
    obtain ⟨hc, h'⟩ := T.chk_some h
    rw [Bool.and_eq_true] at hc
    obtain ⟨hl, hc⟩ := hc
    obtain ⟨o, ho, h'⟩ := T.bind_some h'
    have hp := T.leaf_some h'
    subst hp
    obtain ⟨nF, hn⟩ : ∃ nF, (iterT (sn_step l ds f c b) nF ((0, 0))).run = T.run (.leaf (some 0, mkF 24 [(5, .dat (.int .u64 (numV l)))], [scB ds f b])) := sn_closed l ds f c b hc
    rw [ho] at hn
    refine ⟨nF, ?_⟩
    have he : cleanF (liveAt Try.f29 0) 0 fr = sn_fr l ds f c b ((0, 0)) := sn_enter l ds f c b _ _ fr hl g5 g11 g12 g13
    refine (iter_ok (base := 1) (sn_hr lp l ds f c b) K nF ((0, 0)) _ _ (by rw [clean_clean]; exact he) (by kernel_rfl)).trans ?_
    rw [T.k_run hn]
    exact hK
  · simp [T.run_fail] at h
theorem sn_loopOk {k : Nat} (lp : Loops) (hk : Loops.get lp 3 = some L_sn) : LoopOkN Try.prog k (envOf tab SpF4 [] lp []) (loopAt Try.f29 0).1 (loopAt Try.f29 0).2 := loop_okN (L := L_sn) (by kernel_rfl) hk (sn_sem lp)
theorem qn_closed (l ds : List D) (a e : Int) (hc : okNb l = true) :
    ∃ z, (iterT (qn_step l ds a e) z (0, 0)).run = T.run (.leaf (some 0, mkF 27 [(6, .dat (.int .u64 (numV l)))], [rcB ds a e])) := by
  simp only [okNb, Bool.and_eq_true, decide_eq_true_eq] at hc
  obtain ⟨h1, h2⟩ := hc
  obtain ⟨z, hz⟩ := iter_range (step := qn_step l ds a e) (n := l.length) (o := (some 0, mkF 27 [(6, .dat (.int .u64 (numV l)))], [rcB ds a e])) (fun i => numV (l.take i)) (fun i hi => by
    obtain ⟨g1, g2⟩ := numV_lt h1 i (by omega)
    have g3 := pow56 (show i < 8 by omega)
    have hu := List.all_eq_true.1 h1 _ (nthD_mem hi)
    simp only [okU8, Bool.and_eq_true, decide_eq_true_eq] at hu
    have hw : IntKind.wrap .u64 (IntKind.wrap .u64 (numV (l.take i) * 256) + IntKind.wrap .u64 (D.getI (nthD l i))) = numV (l.take i) * 256 + D.getI (nthD l i) := by
      rw [wrapU (n := numV (l.take i) * 256) (by omega) (by omega), wrapU (n := D.getI (nthD l i)) (by omega) (by omega), wrapU (by omega) (by omega)]
    unfold qn_step
    simp only [Int.toNat_natCast, decide_eq_true (show (i : Int) < (l.length : Int) by omega), decide_eq_true (show (0 : Int) ≤ (i : Int) by omega), decide_eq_true hi, hu.1, wrap_succ (show i < 2 ^ 62 by omega), hw, numV_take hi, Bool.not_true, Bool.false_or, Bool.true_and, T.run_br, T.run_chk, T.run_leaf, cond_true, cond_false]) (by
    unfold qn_step
    simp only [decide_eq_false (show ¬ (l.length : Int) < (l.length : Int) by omega), List.take_length]
    rfl)
  exact ⟨z, hz⟩
def L_qn : Frame' → Store → T (Exit × Frame' × Store) := fun fr σ => match fr.getD 5 .undef, fr.getD 6 .undef, fr.getD 7 .undef, σ with
  | AV.dat (D.slc Sh.one l), AV.dat (D.int IntKind.u64 0), AV.dat (D.int IntKind.i64 0), [{ sh := Sh.agg [Sh.one, Sh.one, Sh.one], dyn := false, frz := false, v := AV.dat (D.agg [D.slc Sh.one ds, D.int IntKind.i64 a, D.int IntKind.i64 e]) }] => .chk (Nat.beq fr.length 27 && (okNb l)) (T.bind (.leaf (some 0, mkF 27 [(6, .dat (.int .u64 (numV l)))], [rcB ds a e])) fun o => .leaf (outEx o.1, o.2.1, o.2.2))
  | _, _, _, _ => .fail
theorem qn_sem (lp : Loops) : ∀ fr σ p, (L_qn fr σ).run = some p → ∀ (K : Kt) r, K p.1 p.2.1 p.2.2 = some r → ∃ n, loopRun (envOf tab SpF4 [] lp []) Try.f31 0 σ.length n (cleanF (liveAt Try.f31 0) 0 fr) σ K = some r := by
  intro fr σ p h K r hK
  unfold L_qn at h
  split at h
  · rename_i l ds a e g5 g6 g7
    obtain ⟨hc, h'⟩ := T.chk_some h
    rw [Bool.and_eq_true] at hc
    obtain ⟨hl, hc⟩ := hc
    obtain ⟨o, ho, h'⟩ := T.bind_some h'
    have hp := T.leaf_some h'
    subst hp
    obtain ⟨nF, hn⟩ : ∃ nF, (iterT (qn_step l ds a e) nF ((0, 0))).run = T.run (.leaf (some 0, mkF 27 [(6, .dat (.int .u64 (numV l)))], [rcB ds a e])) := qn_closed l ds a e hc
    rw [ho] at hn
    refine ⟨nF, ?_⟩
    have he : cleanF (liveAt Try.f31 0) 0 fr = qn_fr l ds a e ((0, 0)) := qn_enter l ds a e _ _ fr hl g5 g6 g7
    refine (iter_ok (base := 1) (qn_hr lp l ds a e) K nF ((0, 0)) _ _ (by rw [clean_clean]; exact he) (by kernel_rfl)).trans ?_
    rw [T.k_run hn]
    exact hK
  · simp [T.run_fail] at h
theorem qn_loopOk {k : Nat} (lp : Loops) (hk : Loops.get lp 4 = some L_qn) : LoopOkN Try.prog k (envOf tab SpF4 [] lp []) (loopAt Try.f31 0).1 (loopAt Try.f31 0).2 := loop_okN (L := L_qn) (by kernel_rfl) hk (qn_sem lp)
def snum_pre (ds : List D) (f : Int) (k : Int) (b : Bool) : Bool := take_pre ds f (fit_v0 k) b && (decide ((↑(List.length (take_v0 ds f (fit_v0 k) b)) : Int) = (↑(List.length (take_v0 ds f (fit_v0 k) b)) : Int)) && okNb (take_v0 ds f (fit_v0 k) b))
def C_snum : FunT := fun args σ => match args, σ with
  | [AV.ptr (Sh.agg [Sh.one, Sh.one, Sh.one]) 0 0 [], AV.dat (D.int IntKind.i64 k)], [{ sh := Sh.agg [Sh.one, Sh.one, Sh.one], dyn := false, frz := false, v := AV.dat (D.agg [D.slc Sh.one ds, D.int IntKind.i64 f, D.bool b]) }] => .chk ((snum_pre ds f k b)) (.leaf ([AV.dat (D.int IntKind.u64 (numV (take_v0 ds f (fit_v0 k) b)))], [{ sh := s52, dyn := false, frz := false, v := AV.dat (D.agg [D.slc Sh.one (take_v1 ds f (fit_v0 k) b), D.int IntKind.i64 (take_v2 ds f (fit_v0 k) b), D.bool b]) }]))
  | _, _ => .fail
theorem snum_raw0 (ds : List D) (f k : Int) (b : Bool) : runF (envOf tab SpF4 [] [(3, L_sn)] []) true Try.f29 [scP, .dat (.int .i64 k)] [scB ds f b] =
  (bif take_pre ds f (fit_v0 k) b then
   (bif decide ((↑(List.length (take_v0 ds f (fit_v0 k) b)) : Int) = (↑(List.length (take_v0 ds f (fit_v0 k) b)) : Int)) && okNb (take_v0 ds f (fit_v0 k) b) then some ([.dat (.int IntKind.u64 (numV (take_v0 ds f (fit_v0 k) b)))], [{ sh := s52, dyn := false, frz := false, v := .dat (.agg [D.slc Sh.one (take_v1 ds f (fit_v0 k) b), D.int .i64 (take_v2 ds f (fit_v0 k) b), D.bool b]) }]) else none) else none) := by kernel_rfl
theorem snum_case0 (ds : List D) (f k : Int) (b : Bool) : runF (envOf tab SpF4 [] [(3, L_sn)] []) true Try.f29 [scP, .dat (.int .i64 k)] [scB ds f b] = FunT.run C_snum [scP, .dat (.int .i64 k)] [scB ds f b] := (snum_raw0 ds f k b).trans (by
  show _ = (cond (take_pre ds f (fit_v0 k) b && (decide ((↑(List.length (take_v0 ds f (fit_v0 k) b)) : Int) = (↑(List.length (take_v0 ds f (fit_v0 k) b)) : Int)) && okNb (take_v0 ds f (fit_v0 k) b))) (some (([.dat (.int IntKind.u64 (numV (take_v0 ds f (fit_v0 k) b)))], [{ sh := s52, dyn := false, frz := false, v := .dat (.agg [D.slc Sh.one (take_v1 ds f (fit_v0 k) b), D.int .i64 (take_v2 ds f (fit_v0 k) b), D.bool b]) }]) : Res)) none)
  generalize (decide ((↑(List.length (take_v0 ds f (fit_v0 k) b)) : Int) = (↑(List.length (take_v0 ds f (fit_v0 k) b)) : Int)) && okNb (take_v0 ds f (fit_v0 k) b)) = z0
  generalize (take_pre ds f (fit_v0 k) b) = z1
  cases z1 with
  | true =>
   cases z0 with
   | true =>
    rfl
   | false =>
    rfl
  | false =>
   rfl
  )
theorem csnum_ok : FunOk Try.prog 29 (FunT.run C_snum) := by
  refine fun_ok (E := envOf tab SpF4 [] [(3, L_sn)] []) (fz := true) (fn := Try.f29) (envOf_ok progOk SpF4_ok) (by kernel_rfl) (by kernel_rfl) (loops_one (by kernel_rfl) (sn_loopOk _ rfl)) ?_
  intro args σ r h
  unfold C_snum at h
  split at h
  · exact (snum_case0 _ _ _ _).trans h
  · simp [T.run_fail] at h
def qnum_pre (ds : List D) (a : Int) (e : Int) (k : Int) : Bool := rtake_pre ds a e (size_v0 k) && okNb (rtake_v0 ds a e (size_v0 k))
def C_qnum : FunT := fun args σ => match args, σ with
  | [AV.ptr (Sh.agg [Sh.one, Sh.one, Sh.one]) 0 0 [], AV.dat (D.int IntKind.i64 k)], [{ sh := Sh.agg [Sh.one, Sh.one, Sh.one], dyn := false, frz := false, v := AV.dat (D.agg [D.slc Sh.one ds, D.int IntKind.i64 a, D.int IntKind.i64 e]) }] => .chk ((qnum_pre ds a e k)) (.leaf ([AV.dat (D.int IntKind.u64 (numV (rtake_v0 ds a e (size_v0 k))))], [{ sh := s52, dyn := false, frz := false, v := AV.dat (D.agg [D.slc Sh.one ds, D.int IntKind.i64 (rtake_v1 ds a e (size_v0 k)), D.int IntKind.i64 (rtake_v2 ds a e (size_v0 k))]) }]))
  | _, _ => .fail
theorem qnum_raw0 (ds : List D) (a e k : Int) : runF (envOf tab SpF4 [] [(4, L_qn)] []) true Try.f31 [scP, .dat (.int .i64 k)] [rcB ds a e] =
  (bif rtake_pre ds a e (size_v0 k) then
   (bif okNb (rtake_v0 ds a e (size_v0 k)) then some ([.dat (.int IntKind.u64 (numV (rtake_v0 ds a e (size_v0 k))))], [{ sh := s52, dyn := false, frz := false, v := .dat (.agg [D.slc Sh.one ds, D.int .i64 (rtake_v1 ds a e (size_v0 k)), D.int .i64 (rtake_v2 ds a e (size_v0 k))]) }]) else none) else none) := by kernel_rfl
theorem qnum_case0 (ds : List D) (a e k : Int) : runF (envOf tab SpF4 [] [(4, L_qn)] []) true Try.f31 [scP, .dat (.int .i64 k)] [rcB ds a e] = FunT.run C_qnum [scP, .dat (.int .i64 k)] [rcB ds a e] := (qnum_raw0 ds a e k).trans (by
  show _ = (cond (rtake_pre ds a e (size_v0 k) && okNb (rtake_v0 ds a e (size_v0 k))) (some (([.dat (.int IntKind.u64 (numV (rtake_v0 ds a e (size_v0 k))))], [{ sh := s52, dyn := false, frz := false, v := .dat (.agg [D.slc Sh.one ds, D.int .i64 (rtake_v1 ds a e (size_v0 k)), D.int .i64 (rtake_v2 ds a e (size_v0 k))]) }]) : Res)) none)
  generalize (okNb (rtake_v0 ds a e (size_v0 k))) = z0
  generalize (rtake_pre ds a e (size_v0 k)) = z1
  cases z1 with
  | true =>
   cases z0 with
   | true =>
    rfl
   | false =>
    rfl
  | false =>
   rfl
  )
theorem cqnum_ok : FunOk Try.prog 31 (FunT.run C_qnum) := by
  refine fun_ok (E := envOf tab SpF4 [] [(4, L_qn)] []) (fz := true) (fn := Try.f31) (envOf_ok progOk SpF4_ok) (by kernel_rfl) (by kernel_rfl) (loops_one (by kernel_rfl) (qn_loopOk _ rfl)) ?_
  intro args σ r h
  unfold C_qnum at h
  split at h
  · exact (qnum_case0 _ _ _ _).trans h
  · simp [T.run_fail] at h
end Go.Proofs.Ytdmmobjegfhneaa
