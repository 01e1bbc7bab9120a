/- Seat 06: rows of things with a name, in better words. -/
import Derived.Test.YtdgphkifajcejaaG
namespace Go.Proofs.Ytdgphkifajcejaa
open Go.AX
set_option maxRecDepth 100000

abbrev ekT : Ek := .agg [.str, .int .i64]
def okT (ds : List D) : Bool := ds.all (okE ekT) && decide (ds.length ≤ 2 ^ 40)
theorem okT_spec {ds : List D} (h : okT ds = true) : ds.all (okE ekT) = true ∧ ds.length ≤ 2 ^ 40 := by
  unfold okT at h
  simpa only [Bool.and_eq_true, decide_eq_true_eq] using h
theorem ekT_form {d : D} (h : okE ekT d = true) : ∃ s n, d = .agg [.str s, .int .i64 n] := by
  cases d with
  | agg l =>
    rw [okE, Bool.and_eq_true] at h
    obtain ⟨h1, h2⟩ := h
    match l, h1, h2 with
    | [a, b], _, h2 =>
      rw [okEL, okEL, okEL, okE, okE, Bool.and_true, Bool.and_eq_true] at h2
      have ha : D.isS a = true := h2.1
      have hb : D.isI .i64 b = true := h2.2
      cases a <;> simp [D.isS] at ha
      cases b <;> simp [D.isI] at hb
      subst hb
      exact ⟨_, _, rfl⟩
    | [], h1, _ => simp [D.isAgg] at h1
    | [_], h1, _ => simp [D.isAgg] at h1
    | _ :: _ :: _ :: _, h1, _ => simp [D.isAgg] at h1
  | _ => simp [okE, D.isAgg] at h
theorem okT_fits {ds : List D} (h : ds.all (okE ekT) = true) : fits (.agg [.one, .one]) ds = true := by
  unfold fits
  rw [List.all_eq_true] at h ⊢
  intro d hd
  obtain ⟨s, n, rfl⟩ := ekT_form (h d hd)
  rfl
def nameB (d : D) : Bool := !decide (Array.toList (ByteArray.data (D.getS (nthD (D.getL d) 0))) = [])
def thasB (ds : List D) (i : Int) : Bool := inB ds i && nameB (nthD ds i.toNat)
def tputL (ds : List D) (i : Int) (x : D) : List D := bif inB ds i then ds.set i.toNat x else []

def C_thas : FunT := fun args σ => match args, σ with
  | [.ptr (.agg [.one, .one]) 0 0 [], .dat (.int .i64 i)], [⟨.agg [.one, .one], false, false, .dat (.agg [.slc (.agg [.one, .one]) ds, .fn (.func 20) [] []])⟩] => .chk (okT ds) (.leaf ([.dat (.bool (thasB ds i))], [trowB 20 ds]))
  | _, _ => .fail
theorem cthas_ok : FunOk Try.prog 22 (FunT.run C_thas) := thas_ok.of (by
  intro args σ r h
  unfold C_thas at h
  split at h
  · rename_i i ds
    obtain ⟨hc, h'⟩ := T.chk_some h
    rw [← T.leaf_some h']
    obtain ⟨h1, h2⟩ := okT_spec hc
    unfold S_thas thasB inB nameB
    by_cases g1 : 0 ≤ i
    · by_cases g2 : i < ds.length
      · have g3 : i.toNat < ds.length := by omega
        have g4 := List.all_eq_true.1 h1 _ (nthD_mem g3)
        simp only [ge_iff_le, g1, g2, g3, g4, decide_true, T.run_chk, T.run_br, cond_true, T.run_leaf, Bool.true_and]
      · simp only [ge_iff_le, g1, g2, decide_true, decide_false, T.run_br, cond_true, cond_false, T.run_leaf, Bool.and_false, Bool.false_and]
    · simp only [ge_iff_le, g1, decide_false, T.run_br, cond_false, T.run_leaf, Bool.false_and]
  · simp [T.run_fail] at h)

def C_tput : FunT := fun args σ => match args, σ with
  | [.ptr (.agg [.one, .one]) 0 0 [], .dat (.int .i64 i), .dat (.agg [.str s, .int .i64 n])], [⟨.agg [.one, .one], false, false, .dat (.agg [.slc (.agg [.one, .one]) ds, .fn (.func 20) [] []])⟩] => .chk (okT ds) (.leaf ([.dat (.slc (.agg [.one, .one]) (tputL ds i (.agg [.str s, .int .i64 n]))), .dat (.int .i64 (bif inB ds i then 0 else 1))], [trowB 20 ds]))
  | _, _ => .fail
theorem ctput_ok : FunOk Try.prog 21 (FunT.run C_tput) := tput_ok.of (by
  intro args σ r h
  unfold C_tput at h
  split at h
  · rename_i i s n ds
    obtain ⟨hc, h'⟩ := T.chk_some h
    rw [← T.leaf_some h']
    obtain ⟨h1, h2⟩ := okT_spec hc
    unfold S_tput tputL
    cases hi : inB ds i with
    | true =>
      obtain ⟨g1, g2⟩ := inB_spec hi
      have g3 : i.toNat < ds.length := by omega
      have g4 := List.all_eq_true.1 h1 _ (nthD_mem g3)
      have g5 : ¬ i < 0 := by omega
      have g7 : ds.length * 24 ≤ 35184372088832 := by omega
      obtain ⟨s', n', g8⟩ := ekT_form g4
      have g9 : ds.isEmpty = false := by cases ds with | nil => simp at g3 | cons => rfl
      have g10 : okS (.agg [.one, .one]) (nthD ds i.toNat) = true := by rw [g8]; rfl
      have g11 : Sh.eqb (.agg [D.shape (nthD (D.getL (nthD ds i.toNat)) 0), D.shape (nthD (D.getL (nthD ds i.toNat)) 1)]) (.agg [.one, .one]) = true := by rw [g8]; rfl
      have e : seg (ds.set i.toNat (D.agg [.str s, .int .i64 n])) 0 ds.length = ds.set i.toNat (D.agg [.str s, .int .i64 n]) := by
        have := seg_full (ds.set i.toNat (D.agg [.str s, .int .i64 n]))
        rwa [List.length_set] at this
      simp only [ge_iff_le, g1, g2, g3, g5, g7, g9, g10, g11, e, Nat.zero_add, okT_fits h1, decide_true, decide_false, beq_self_eq_true, T.run_chk, T.run_br, cond_true, cond_false, T.run_leaf, Bool.and_self, Bool.not_false, List.length_set, Nat.beq_refl, (show ¬ (ds.length : Int) ≤ i by omega)]
    | false =>
      simp only [cond_false]
      by_cases g1 : i < 0
      · simp only [g1, decide_true, T.run_br, T.run_chk, cond_true, cond_false, T.run_leaf, show (true == false) = false from rfl]
      · have g2 : i ≥ ds.length := by
          unfold inB at hi
          rw [decide_eq_true (show 0 ≤ i by omega), Bool.true_and] at hi
          have := of_decide_eq_false hi
          omega
        simp only [g1, g2, decide_true, decide_false, T.run_br, cond_true, cond_false, T.run_leaf, beq_self_eq_true]
  · simp [T.run_fail] at h)

def tslots_fr (n : Int) (_ : List D) : (Int × Nat × List D) → Frame' := fun ⟨i, m, _⟩ => mkF 25 [(0, pR 0), (3, .sref .one 1 m [] 0 m), (12, .dat (.int .i64 n)), (13, .dat (.int .i64 i))]
def tslots_st (_ : Int) (ds : List D) : (Int × Nat × List D) → Store := fun ⟨_, _, out⟩ => [trowB 20 ds, mkDyn .one out]
def tslots_step (n : Int) (ds : List D) : (Int × Nat × List D) → T ((Int × Nat × List D) ⊕ LOut) := fun ⟨i, m, out⟩ => 
  .br (decide (i < n)) (
   .chk (okT ds) (
    .br (thasB ds i) (
     .chk (Nat.beq (List.length out) m && true && true && true && true && Nat.beq m m && true && true && decide ((m + (1 : Nat)) * (8 : Nat) ≤ (35184372088832 : Nat))) (.leaf (.inl ((IntKind.wrap IntKind.i64 (i + (1 : Int))), (m + (1 : Nat)), (out ++ [D.int IntKind.i64 i]))))) (.leaf (.inl ((IntKind.wrap IntKind.i64 (i + (1 : Int))), (m), (out)))))) (.leaf (.inr ((some (0 : Nat)), mkF (25 : Nat) [((3 : Nat), AV.sref Sh.one (1 : Nat) m [] (0 : Nat) m)], [{ sh := Sh.agg [Sh.one, Sh.one], dyn := false, frz := false, v := AV.dat (D.agg [D.slc (Sh.agg [Sh.one, Sh.one]) ds, D.fn (Fn.func (20 : Nat)) [] []]) }, { sh := Sh.arr Sh.one (0 : Nat), dyn := true, frz := false, v := AV.dat (D.arr Sh.one out) }])))
theorem tslots_round (lp : Loops) (n : Int) (ds : List D) (i : Int) (m : Nat) (out : List D) (K : Kt) : oneRound (envOf tab [(29, S_tmade), (22, C_thas)] [] lp [(4, 0, [.own 3])]) Try.f30 0 (2) (mkF 25 [(0, pR 0), (3, .sref .one 1 m [] 0 m), (12, .dat (.int .i64 n)), (13, .dat (.int .i64 i))]) ([trowB 20 ds, mkDyn .one out]) K =
  (bif decide (i < n) then 
   (bif okT ds then 
    (bif thasB ds i then 
     (bif Nat.beq (List.length out) m && true && true && true && true && Nat.beq m m && true && true && decide ((m + (1 : Nat)) * (8 : Nat) ≤ (35184372088832 : Nat)) then K (Exit.normal) (mkF (25 : Nat) [((0 : Nat), AV.ptr (Sh.agg [Sh.one, Sh.one]) (0 : Nat) (0 : Nat) []), ((3 : Nat), AV.sref Sh.one (1 : Nat) (m + (1 : Nat)) [] (0 : Nat) (m + (1 : Nat))), ((12 : Nat), AV.dat (D.int IntKind.i64 n)), ((13 : Nat), AV.dat (D.int IntKind.i64 (IntKind.wrap IntKind.i64 (i + (1 : Int))))), ((14 : Nat), AV.dat (D.bool (decide (i < n)))), ((23 : Nat), AV.dat (D.int IntKind.i64 (IntKind.wrap IntKind.i64 (i + (1 : Int)))))]) ([{ sh := Sh.agg [Sh.one, Sh.one], dyn := false, frz := false, v := AV.dat (D.agg [D.slc (Sh.agg [Sh.one, Sh.one]) ds, D.fn (Fn.func (20 : Nat)) [] []]) }, { sh := Sh.arr Sh.one (0 : Nat), dyn := true, frz := false, v := AV.dat (D.arr Sh.one (out ++ [D.int IntKind.i64 i])) }, { sh := Sh.arr Sh.one (0 : Nat), dyn := true, frz := false, v := AV.dat (D.arr Sh.one [D.int IntKind.i64 i]) }]) else none) else K (Exit.normal) (mkF (25 : Nat) [((0 : Nat), AV.ptr (Sh.agg [Sh.one, Sh.one]) (0 : Nat) (0 : Nat) []), ((3 : Nat), AV.sref Sh.one (1 : Nat) m [] (0 : Nat) m), ((12 : Nat), AV.dat (D.int IntKind.i64 n)), ((13 : Nat), AV.dat (D.int IntKind.i64 (IntKind.wrap IntKind.i64 (i + (1 : Int))))), ((14 : Nat), AV.dat (D.bool (decide (i < n)))), ((23 : Nat), AV.dat (D.int IntKind.i64 (IntKind.wrap IntKind.i64 (i + (1 : Int)))))]) ([{ sh := Sh.agg [Sh.one, Sh.one], dyn := false, frz := false, v := AV.dat (D.agg [D.slc (Sh.agg [Sh.one, Sh.one]) ds, D.fn (Fn.func (20 : Nat)) [] []]) }, { sh := Sh.arr Sh.one (0 : Nat), dyn := true, frz := false, v := AV.dat (D.arr Sh.one out) }])) else none) else K (Exit.exit (0 : Nat)) (mkF (25 : Nat) [((3 : Nat), AV.sref Sh.one (1 : Nat) m [] (0 : Nat) m)]) ([{ sh := Sh.agg [Sh.one, Sh.one], dyn := false, frz := false, v := AV.dat (D.agg [D.slc (Sh.agg [Sh.one, Sh.one]) ds, D.fn (Fn.func (20 : Nat)) [] []]) }, { sh := Sh.arr Sh.one (0 : Nat), dyn := true, frz := false, v := AV.dat (D.arr Sh.one out) }])) := by kernel_rfl
theorem tslots_hr (lp : Loops) (n : Int) (ds : List D) : ∀ (sA : (Int × Nat × List D)) (K : Kt) (N : (Int × Nat × List D) → Option Res), (∀ sB fr' σ', cleanF (liveAt Try.f30 0) 0 fr' = tslots_fr n ds sB → trim (2) (tslots_fr n ds sB) σ' = tslots_st n ds sB → K .normal fr' σ' = N sB) →
    oneRound (envOf tab [(29, S_tmade), (22, C_thas)] [] lp [(4, 0, [.own 3])]) Try.f30 0 (2) (tslots_fr n ds sA) (tslots_st n ds sA) K = (tslots_step n ds sA).k (LK K N) := by
  intro sA K N hN
  obtain ⟨i, m, out⟩ := sA
  exact (tslots_round lp n ds i m out K).trans (cong2 (cong2 (cong2 (cong2 (hN ((IntKind.wrap IntKind.i64 (i + (1 : Int))), (m + (1 : Nat)), (out ++ [D.int IntKind.i64 i])) _ _ (by kernel_rfl) (by kernel_rfl)) rfl) (hN ((IntKind.wrap IntKind.i64 (i + (1 : Int))), (m), (out)) _ _ (by kernel_rfl) (by kernel_rfl))) rfl) rfl)
theorem tslots_enter (n : Int) (ds : List D) (i : Int) (m : Nat) (out : List D) (fr : Frame') (hl : Nat.beq fr.length 25 = true) (g0 : fr.getD 0 .undef = AV.ptr (Sh.agg [Sh.one, Sh.one]) 0 0 []) (g3 : fr.getD 3 .undef = AV.sref Sh.one 1 m [] 0 m) (g12 : fr.getD 12 .undef = AV.dat (D.int IntKind.i64 n)) (g13 : fr.getD 13 .undef = AV.dat (D.int IntKind.i64 i)) : cleanF (liveAt Try.f30 0) 0 fr = tslots_fr n ds (i, m, out) := by
  have e : liveAt Try.f30 0 = [12, 0, 13, 3] := by kernel_rfl
  rw [clean_mk (Nat.eq_of_beq_eq_true hl), e]
  show mkF 25 [(12, fr.getD 12 .undef), (0, fr.getD 0 .undef), (13, fr.getD 13 .undef), (3, fr.getD 3 .undef)] = _
  rw [g12, g0, g13, g3]
  kernel_rfl


def tslotsTo (ds : List D) (i : Nat) : List D := ((List.range i).filter fun k => nameB (nthD ds k)).map fun (k : Nat) => D.int .i64 (k : Int)
theorem tslotsTo_succ (ds : List D) (i : Nat) : tslotsTo ds (i + 1) = bif nameB (nthD ds i) then tslotsTo ds i ++ [D.int .i64 (i : Int)] else tslotsTo ds i := by
  unfold tslotsTo
  rw [List.range_succ, List.filter_append, List.map_append]
  cases h : nameB (nthD ds i) <;> simp [h]
theorem tslotsTo_len (ds : List D) (i : Nat) : (tslotsTo ds i).length ≤ i := by
  unfold tslotsTo
  rw [List.length_map]
  exact Nat.le_trans (List.length_filter_le _ _) (by simp)
theorem thasB_nat {ds : List D} {i : Nat} (h : i < ds.length) : thasB ds (i : Int) = nameB (nthD ds i) := by
  unfold thasB inB
  rw [decide_eq_true (by omega), decide_eq_true (by omega), Int.toNat_natCast]; rfl

theorem tslots_closed (n : Int) (ds : List D) (hc : (decide (n = (ds.length : Int)) && okT ds) = true) :
    ∃ k, (iterT (tslots_step n ds) k (0, 0, [])).run = T.run (.leaf (some 0, mkF 25 [(3, .sref .one 1 (tslotsTo ds ds.length).length [] 0 (tslotsTo ds ds.length).length)], [trowB 20 ds, mkDyn .one (tslotsTo ds ds.length)])) := by
  simp only [Bool.and_eq_true, decide_eq_true_eq] at hc
  obtain ⟨rfl, h1⟩ := hc
  obtain ⟨_, h2⟩ := okT_spec h1
  refine iter_range (n := ds.length) (fun i => ((tslotsTo ds i).length, tslotsTo ds i)) (fun i hi => ?_) ?_
  · unfold tslots_step
    have := tslotsTo_len ds i
    simp only [decide_eq_true (show (i : Int) < (ds.length : Int) by omega), h1, thasB_nat hi, wrap_succ (show i < 2 ^ 62 by omega), beq_self, decide_eq_true (show ((tslotsTo ds i).length + 1) * 8 ≤ 35184372088832 by omega), tslotsTo_succ]
    cases nameB (nthD ds i) with
    | true => simp only [cond_true, List.length_append]; rfl
    | false => rfl
  · unfold tslots_step
    simp only [decide_eq_false (show ¬ (ds.length : Int) < (ds.length : Int) by omega)]
    rfl

def L_tslots : Frame' → Store → T (Exit × Frame' × Store) := fun fr σ => match fr.getD 0 .undef, fr.getD 3 .undef, fr.getD 12 .undef, fr.getD 13 .undef, σ with
  | AV.ptr (Sh.agg [Sh.one, Sh.one]) 0 0 [], AV.sref Sh.one 1 0 [] 0 0, AV.dat (D.int IntKind.i64 n), AV.dat (D.int IntKind.i64 0), [{ sh := Sh.agg [Sh.one, Sh.one], dyn := false, frz := false, v := AV.dat (D.agg [D.slc (Sh.agg [Sh.one, Sh.one]) ds, D.fn (Fn.func 20) [] []]) }, { sh := Sh.arr Sh.one 0, dyn := true, frz := false, v := AV.dat (D.arr Sh.one []) }] => .chk (Nat.beq fr.length 25 && (decide (n = (ds.length : Int)) && okT ds)) (T.bind (.leaf (some 0, mkF 25 [(3, .sref .one 1 (tslotsTo ds ds.length).length [] 0 (tslotsTo ds ds.length).length)], [trowB 20 ds, mkDyn .one (tslotsTo ds ds.length)])) fun o => .leaf (outEx o.1, o.2.1, o.2.2))
  | _, _, _, _, _ => .fail
theorem tslots_loopOk (lp : Loops) (hk : Loops.get lp 5 = some L_tslots) : LoopOk (envOf tab [(29, S_tmade), (22, C_thas)] [] lp [(4, 0, [.own 3])]) (loopAt Try.f30 0).1 (loopAt Try.f30 0).2 := by
  refine loop_ok (L := L_tslots) hk ?_
  intro fr σ p h K r hK
  unfold L_tslots at h
  split at h
  · rename_i n ds g0 g3 g12 g13
    obtain ⟨hc, h'⟩ := T.chk_some h
    rw [Bool.and_eq_true] at hc
    obtain ⟨hl, hc⟩ := hc
    obtain ⟨o, ho, h'⟩ := T.bind_some h'
    have hp := T.leaf_some h'
    subst hp
    obtain ⟨nF, hn⟩ : ∃ nF, (iterT (tslots_step n ds) nF ((0, 0, []))).run = T.run (.leaf (some 0, mkF 25 [(3, .sref .one 1 (tslotsTo ds ds.length).length [] 0 (tslotsTo ds ds.length).length)], [trowB 20 ds, mkDyn .one (tslotsTo ds ds.length)])) := tslots_closed n ds hc
    rw [ho] at hn
    refine ⟨nF, ?_⟩
    have he : cleanF (liveAt Try.f30 0) 0 fr = tslots_fr n ds ((0, 0, [])) := tslots_enter n ds _ _ _ fr hl g0 g3 g12 g13
    refine (iter_ok (base := 2) (tslots_hr lp n ds) K nF ((0, 0, [])) _ _ (by rw [clean_clean]; exact he) (by kernel_rfl)).trans ?_
    rw [T.k_run hn]
    exact hK
  · simp [T.run_fail] at h


def S_tslots : FunT := fun args σ => match args, σ with
  | [AV.ptr (Sh.agg [Sh.one, Sh.one]) 0 0 []], [{ sh := Sh.agg [Sh.one, Sh.one], dyn := false, frz := false, v := AV.dat (D.agg [D.slc (Sh.agg [Sh.one, Sh.one]) ds, D.fn (Fn.func 20) [] []]) }] => 
    .chk (decide ((↑(List.length ds) : Int) = (↑(List.length ds) : Int)) && okT ds) (
     .chk (Nat.beq (List.length (tslotsTo ds (List.length ds))) (List.length (tslotsTo ds (List.length ds)))) (.leaf ([AV.dat (D.slc Sh.one (seg (tslotsTo ds (List.length ds)) (0 : Nat) (List.length (tslotsTo ds (List.length ds)))))], [{ sh := Sh.agg [Sh.one, Sh.one], dyn := false, frz := false, v := AV.dat (D.agg [D.slc (Sh.agg [Sh.one, Sh.one]) ds, D.fn (Fn.func (20 : Nat)) [] []]) }])))
  | _, _ => .fail
theorem tslots_case0 (ds : List D) : runF (envOf tab [(29, S_tmade), (22, C_thas)] [] [(5, L_tslots)] [(4, 0, [.own 3])]) true Try.f30 [pR 0] [trowB 20 ds] = FunT.run S_tslots [pR 0] [trowB 20 ds] := by kernel_rfl
theorem tslots_ok : FunOk Try.prog 30 (FunT.run S_tslots) := by
  refine fun_ok (E := envOf tab [(29, S_tmade), (22, C_thas)] [] [(5, L_tslots)] [(4, 0, [.own 3])]) (fz := true) (fn := Try.f30) (envOf_ok progOk (.cons tmade_ok (.cons cthas_ok (.nil _)))) (by kernel_rfl) (by kernel_rfl) (loops_one (by kernel_rfl) (tslots_loopOk _ rfl)) ?_
  intro args σ r h
  unfold S_tslots at h
  split at h
  · exact (tslots_case0 _).trans h
  · simp [T.run_fail] at h


def C_tslots : FunT := fun args σ => match args, σ with
  | [.ptr (.agg [.one, .one]) 0 0 []], [⟨.agg [.one, .one], false, false, .dat (.agg [.slc (.agg [.one, .one]) ds, .fn (.func 20) [] []])⟩] => .chk (okT ds) (.leaf ([.dat (.slc .one (tslotsTo ds ds.length))], [trowB 20 ds]))
  | _, _ => .fail
theorem ctslots_ok : FunOk Try.prog 30 (FunT.run C_tslots) := tslots_ok.of (by
  intro args σ r h
  unfold C_tslots at h
  split at h
  · rename_i ds
    obtain ⟨hc, h'⟩ := T.chk_some h
    rw [← T.leaf_some h']
    unfold S_tslots
    simp only [hc, decide_true, Bool.true_and, T.run_chk, cond_true, T.run_leaf, beq_self, seg_full]
  · simp [T.run_fail] at h)

def S_tcount : FunT := fun args σ => match args, σ with
  | [AV.ptr (Sh.agg [Sh.one, Sh.one]) 0 0 []], [{ sh := Sh.agg [Sh.one, Sh.one], dyn := false, frz := false, v := AV.dat (D.agg [D.slc (Sh.agg [Sh.one, Sh.one]) ds, D.fn (Fn.func 20) [] []]) }] => 
    .chk (okT ds) (.leaf ([AV.dat (D.int IntKind.i64 (↑(List.length (tslotsTo ds (List.length ds))) : Int))], [{ sh := Sh.agg [Sh.one, Sh.one], dyn := false, frz := false, v := AV.dat (D.agg [D.slc (Sh.agg [Sh.one, Sh.one]) ds, D.fn (Fn.func (20 : Nat)) [] []]) }]))
  | _, _ => .fail
theorem tcount_case0 (ds : List D) : runF (envOf tab [(30, C_tslots)] [] [] []) true Try.f23 [pR 0] [trowB 20 ds] = FunT.run S_tcount [pR 0] [trowB 20 ds] := by kernel_rfl
theorem tcount_ok : FunOk Try.prog 23 (FunT.run S_tcount) := by
  refine fun_ok (E := envOf tab [(30, C_tslots)] [] [] []) (fz := true) (fn := Try.f23) (envOf_ok progOk (.cons ctslots_ok (.nil _))) (by kernel_rfl) (by kernel_rfl) (loops_none (by kernel_rfl)) ?_
  intro args σ r h
  unfold S_tcount at h
  split at h
  · exact (tcount_case0 _).trans h
  · simp [T.run_fail] at h


end Go.Proofs.Ytdgphkifajcejaa
