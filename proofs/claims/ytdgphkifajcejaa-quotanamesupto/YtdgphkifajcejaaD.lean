/- Seat 06: rows of numbers: the slots, and the document's answers. -/
import Derived.Test.YtdgphkifajcejaaC
namespace Go.Proofs.Ytdgphkifajcejaa
open Go.AX
set_option maxRecDepth 100000

def slots_fr (n : Int) (_ : List D) : (Int × Nat × List D) → Frame' := fun ⟨i, m, _⟩ => mkF 25 [(0, pR 0), (3, .sref .one 1 m [] 0 m), (12, .dat (.int .i64 n)), (13, .dat (.int .i64 i))]
def slots_st (_ : Int) (ds : List D) : (Int × Nat × List D) → Store := fun ⟨_, _, out⟩ => [rowB 7 ds, mkDyn .one out]
def slots_step (n : Int) (ds : List D) : (Int × Nat × List D) → T ((Int × Nat × List D) ⊕ LOut) := fun ⟨i, m, out⟩ => 
  .br (decide (i < n)) (
   .chk (okL ds) (
    .br (hasB ds i) (
     .chk (Nat.beq (List.length out) m && true && true && true && true && Nat.beq m m && true && true && decide ((m + (1 : Nat)) * (8 : Nat) ≤ (35184372088832 : Nat))) (.leaf (.inl ((IntKind.wrap IntKind.i64 (i + (1 : Int))), (m + (1 : Nat)), (out ++ [D.int IntKind.i64 i]))))) (.leaf (.inl ((IntKind.wrap IntKind.i64 (i + (1 : Int))), (m), (out)))))) (.leaf (.inr ((some (0 : Nat)), mkF (25 : Nat) [((3 : Nat), AV.sref Sh.one (1 : Nat) m [] (0 : Nat) m)], [{ sh := Sh.agg [Sh.one, Sh.one], dyn := false, frz := false, v := AV.dat (D.agg [D.slc Sh.one ds, D.fn (Fn.func (7 : Nat)) [] []]) }, { sh := Sh.arr Sh.one (0 : Nat), dyn := true, frz := false, v := AV.dat (D.arr Sh.one out) }])))
theorem slots_round (lp : Loops) (n : Int) (ds : List D) (i : Int) (m : Nat) (out : List D) (K : Kt) : oneRound (envOf tab [(25, S_made), (18, C_has)] [] lp [(4, 0, [.own 3])]) Try.f15 0 (2) (mkF 25 [(0, pR 0), (3, .sref .one 1 m [] 0 m), (12, .dat (.int .i64 n)), (13, .dat (.int .i64 i))]) ([rowB 7 ds, mkDyn .one out]) K =
  (bif decide (i < n) then 
   (bif okL ds then 
    (bif hasB ds i then 
     (bif Nat.beq (List.length out) m && true && true && true && true && Nat.beq m m && true && true && decide ((m + (1 : Nat)) * (8 : Nat) ≤ (35184372088832 : Nat)) then K (Exit.normal) (mkF (25 : Nat) [((0 : Nat), AV.ptr (Sh.agg [Sh.one, Sh.one]) (0 : Nat) (0 : Nat) []), ((3 : Nat), AV.sref Sh.one (1 : Nat) (m + (1 : Nat)) [] (0 : Nat) (m + (1 : Nat))), ((12 : Nat), AV.dat (D.int IntKind.i64 n)), ((13 : Nat), AV.dat (D.int IntKind.i64 (IntKind.wrap IntKind.i64 (i + (1 : Int))))), ((14 : Nat), AV.dat (D.bool (decide (i < n)))), ((23 : Nat), AV.dat (D.int IntKind.i64 (IntKind.wrap IntKind.i64 (i + (1 : Int)))))]) ([{ sh := Sh.agg [Sh.one, Sh.one], dyn := false, frz := false, v := AV.dat (D.agg [D.slc Sh.one ds, D.fn (Fn.func (7 : Nat)) [] []]) }, { sh := Sh.arr Sh.one (0 : Nat), dyn := true, frz := false, v := AV.dat (D.arr Sh.one (out ++ [D.int IntKind.i64 i])) }, { sh := Sh.arr Sh.one (0 : Nat), dyn := true, frz := false, v := AV.dat (D.arr Sh.one [D.int IntKind.i64 i]) }]) else none) else K (Exit.normal) (mkF (25 : Nat) [((0 : Nat), AV.ptr (Sh.agg [Sh.one, Sh.one]) (0 : Nat) (0 : Nat) []), ((3 : Nat), AV.sref Sh.one (1 : Nat) m [] (0 : Nat) m), ((12 : Nat), AV.dat (D.int IntKind.i64 n)), ((13 : Nat), AV.dat (D.int IntKind.i64 (IntKind.wrap IntKind.i64 (i + (1 : Int))))), ((14 : Nat), AV.dat (D.bool (decide (i < n)))), ((23 : Nat), AV.dat (D.int IntKind.i64 (IntKind.wrap IntKind.i64 (i + (1 : Int)))))]) ([{ sh := Sh.agg [Sh.one, Sh.one], dyn := false, frz := false, v := AV.dat (D.agg [D.slc Sh.one ds, D.fn (Fn.func (7 : Nat)) [] []]) }, { sh := Sh.arr Sh.one (0 : Nat), dyn := true, frz := false, v := AV.dat (D.arr Sh.one out) }])) else none) else K (Exit.exit (0 : Nat)) (mkF (25 : Nat) [((3 : Nat), AV.sref Sh.one (1 : Nat) m [] (0 : Nat) m)]) ([{ sh := Sh.agg [Sh.one, Sh.one], dyn := false, frz := false, v := AV.dat (D.agg [D.slc Sh.one ds, D.fn (Fn.func (7 : Nat)) [] []]) }, { sh := Sh.arr Sh.one (0 : Nat), dyn := true, frz := false, v := AV.dat (D.arr Sh.one out) }])) := by kernel_rfl
theorem slots_hr (lp : Loops) (n : Int) (ds : List D) : ∀ (sA : (Int × Nat × List D)) (K : Kt) (N : (Int × Nat × List D) → Option Res), (∀ sB fr' σ', cleanF (liveAt Try.f15 0) 0 fr' = slots_fr n ds sB → trim (2) (slots_fr n ds sB) σ' = slots_st n ds sB → K .normal fr' σ' = N sB) →
    oneRound (envOf tab [(25, S_made), (18, C_has)] [] lp [(4, 0, [.own 3])]) Try.f15 0 (2) (slots_fr n ds sA) (slots_st n ds sA) K = (slots_step n ds sA).k (LK K N) := by
  intro sA K N hN
  obtain ⟨i, m, out⟩ := sA
  exact (slots_round lp n ds i m out K).trans (cong2 (cong2 (cong2 (cong2 (hN ((IntKind.wrap IntKind.i64 (i + (1 : Int))), (m + (1 : Nat)), (out ++ [D.int IntKind.i64 i])) _ _ (by kernel_rfl) (by kernel_rfl)) rfl) (hN ((IntKind.wrap IntKind.i64 (i + (1 : Int))), (m), (out)) _ _ (by kernel_rfl) (by kernel_rfl))) rfl) rfl)
theorem slots_enter (n : Int) (ds : List D) (i : Int) (m : Nat) (out : List D) (fr : Frame') (hl : Nat.beq fr.length 25 = true) (g0 : fr.getD 0 .undef = AV.ptr (Sh.agg [Sh.one, Sh.one]) 0 0 []) (g3 : fr.getD 3 .undef = AV.sref Sh.one 1 m [] 0 m) (g12 : fr.getD 12 .undef = AV.dat (D.int IntKind.i64 n)) (g13 : fr.getD 13 .undef = AV.dat (D.int IntKind.i64 i)) : cleanF (liveAt Try.f15 0) 0 fr = slots_fr n ds (i, m, out) := by
  have e : liveAt Try.f15 0 = [12, 0, 13, 3] := by kernel_rfl
  rw [clean_mk (Nat.eq_of_beq_eq_true hl), e]
  show mkF 25 [(12, fr.getD 12 .undef), (0, fr.getD 0 .undef), (13, fr.getD 13 .undef), (3, fr.getD 3 .undef)] = _
  rw [g12, g0, g13, g3]
  kernel_rfl


def slotsTo (ds : List D) (i : Nat) : List D := ((List.range i).filter fun k => D.getI (nthD ds k) != 0).map fun (k : Nat) => D.int .i64 (k : Int)
theorem slotsTo_succ (ds : List D) (i : Nat) : slotsTo ds (i + 1) = bif D.getI (nthD ds i) != 0 then slotsTo ds i ++ [D.int .i64 (i : Int)] else slotsTo ds i := by
  unfold slotsTo
  rw [List.range_succ, List.filter_append, List.map_append]
  cases h : D.getI (nthD ds i) != 0 <;> simp [h]
theorem slotsTo_len (ds : List D) (i : Nat) : (slotsTo ds i).length ≤ i := by
  unfold slotsTo
  rw [List.length_map]
  exact Nat.le_trans (List.length_filter_le _ _) (by simp)
theorem hasB_nat {ds : List D} {i : Nat} (h : i < ds.length) : hasB ds (i : Int) = (D.getI (nthD ds i) != 0) := by
  unfold hasB inB
  rw [decide_eq_true (by omega), decide_eq_true (by omega), Int.toNat_natCast]; rfl

theorem slots_closed (n : Int) (ds : List D) (hc : (decide (n = (ds.length : Int)) && okL ds) = true) :
    ∃ k, (iterT (slots_step n ds) k (0, 0, [])).run = T.run (.leaf (some 0, mkF 25 [(3, .sref .one 1 (slotsTo ds ds.length).length [] 0 (slotsTo ds ds.length).length)], [rowB 7 ds, mkDyn .one (slotsTo ds ds.length)])) := by
  simp only [Bool.and_eq_true, decide_eq_true_eq] at hc
  obtain ⟨rfl, h1⟩ := hc
  obtain ⟨_, h2⟩ := okL_spec h1
  refine iter_range (n := ds.length) (fun i => ((slotsTo ds i).length, slotsTo ds i)) (fun i hi => ?_) ?_
  · unfold slots_step
    have := slotsTo_len ds i
    simp only [decide_eq_true (show (i : Int) < (ds.length : Int) by omega), h1, hasB_nat hi, wrap_succ (show i < 2 ^ 62 by omega), beq_self, decide_eq_true (show ((slotsTo ds i).length + 1) * 8 ≤ 35184372088832 by omega), slotsTo_succ]
    cases D.getI (nthD ds i) != 0 with
    | true => simp only [cond_true, List.length_append]; rfl
    | false => rfl
  · unfold slots_step
    simp only [decide_eq_false (show ¬ (ds.length : Int) < (ds.length : Int) by omega)]
    rfl

def L_slots : Frame' → Store → T (Exit × Frame' × Store) := fun fr σ => match fr.getD 0 .undef, fr.getD 3 .undef, fr.getD 12 .undef, fr.getD 13 .undef, σ with
  | AV.ptr (Sh.agg [Sh.one, Sh.one]) 0 0 [], AV.sref Sh.one 1 0 [] 0 0, AV.dat (D.int IntKind.i64 n), AV.dat (D.int IntKind.i64 0), [{ sh := Sh.agg [Sh.one, Sh.one], dyn := false, frz := false, v := AV.dat (D.agg [D.slc Sh.one ds, D.fn (Fn.func 7) [] []]) }, { sh := Sh.arr Sh.one 0, dyn := true, frz := false, v := AV.dat (D.arr Sh.one []) }] => .chk (Nat.beq fr.length 25 && (decide (n = (ds.length : Int)) && okL ds)) (T.bind (.leaf (some 0, mkF 25 [(3, .sref .one 1 (slotsTo ds ds.length).length [] 0 (slotsTo ds ds.length).length)], [rowB 7 ds, mkDyn .one (slotsTo ds ds.length)])) fun o => .leaf (outEx o.1, o.2.1, o.2.2))
  | _, _, _, _, _ => .fail
theorem slots_loopOk (lp : Loops) (hk : Loops.get lp 5 = some L_slots) : LoopOk (envOf tab [(25, S_made), (18, C_has)] [] lp [(4, 0, [.own 3])]) (loopAt Try.f15 0).1 (loopAt Try.f15 0).2 := by
  refine loop_ok (L := L_slots) hk ?_
  intro fr σ p h K r hK
  unfold L_slots at h
  split at h
  · rename_i n ds g0 g3 g12 g13
    obtain ⟨hc, h'⟩ := T.chk_some h
    rw [Bool.and_eq_true] at hc
    obtain ⟨hl, hc⟩ := hc
    obtain ⟨o, ho, h'⟩ := T.bind_some h'
    have hp := T.leaf_some h'
    subst hp
    obtain ⟨nF, hn⟩ : ∃ nF, (iterT (slots_step n ds) nF ((0, 0, []))).run = T.run (.leaf (some 0, mkF 25 [(3, .sref .one 1 (slotsTo ds ds.length).length [] 0 (slotsTo ds ds.length).length)], [rowB 7 ds, mkDyn .one (slotsTo ds ds.length)])) := slots_closed n ds hc
    rw [ho] at hn
    refine ⟨nF, ?_⟩
    have he : cleanF (liveAt Try.f15 0) 0 fr = slots_fr n ds ((0, 0, [])) := slots_enter n ds _ _ _ fr hl g0 g3 g12 g13
    refine (iter_ok (base := 2) (slots_hr lp n ds) K nF ((0, 0, [])) _ _ (by rw [clean_clean]; exact he) (by kernel_rfl)).trans ?_
    rw [T.k_run hn]
    exact hK
  · simp [T.run_fail] at h


def S_slots : FunT := fun args σ => match args, σ with
  | [AV.ptr (Sh.agg [Sh.one, Sh.one]) 0 0 []], [{ sh := Sh.agg [Sh.one, Sh.one], dyn := false, frz := false, v := AV.dat (D.agg [D.slc Sh.one ds, D.fn (Fn.func 7) [] []]) }] => 
    .chk (decide ((↑(List.length ds) : Int) = (↑(List.length ds) : Int)) && okL ds) (
     .chk (Nat.beq (List.length (slotsTo ds (List.length ds))) (List.length (slotsTo ds (List.length ds)))) (.leaf ([AV.dat (D.slc Sh.one (seg (slotsTo ds (List.length ds)) (0 : Nat) (List.length (slotsTo ds (List.length ds)))))], [{ sh := Sh.agg [Sh.one, Sh.one], dyn := false, frz := false, v := AV.dat (D.agg [D.slc Sh.one ds, D.fn (Fn.func (7 : Nat)) [] []]) }])))
  | [AV.dat D.nilp], [] => .leaf ([AV.dat (D.slc Sh.one [])], [])
  | _, _ => .fail
theorem slots_case0 (ds : List D) : runF (envOf tab [(25, S_made), (18, C_has)] [] [(5, L_slots)] [(4, 0, [.own 3])]) true Try.f15 [pR 0] [rowB 7 ds] = FunT.run S_slots [pR 0] [rowB 7 ds] := by kernel_rfl
theorem slots_case1  : runF (envOf tab [(25, S_made), (18, C_has)] [] [(5, L_slots)] [(4, 0, [.own 3])]) true Try.f15 [.dat .nilp] [] = FunT.run S_slots [.dat .nilp] [] := by kernel_rfl
theorem slots_ok : FunOk Try.prog 15 (FunT.run S_slots) := by
  refine fun_ok (E := envOf tab [(25, S_made), (18, C_has)] [] [(5, L_slots)] [(4, 0, [.own 3])]) (fz := true) (fn := Try.f15) (envOf_ok progOk (.cons made_ok (.cons chas_ok (.nil _)))) (by kernel_rfl) (by kernel_rfl) (loops_one (by kernel_rfl) (slots_loopOk _ rfl)) ?_
  intro args σ r h
  unfold S_slots at h
  split at h
  · exact (slots_case0 _).trans h
  · exact (slots_case1).trans h
  · simp [T.run_fail] at h


def C_slots : FunT := fun args σ => match args, σ with
  | [.ptr (.agg [.one, .one]) 0 0 []], [⟨.agg [.one, .one], false, false, .dat (.agg [.slc .one ds, .fn (.func 7) [] []])⟩] => .chk (okL ds) (.leaf ([.dat (.slc .one (slotsTo ds ds.length))], [rowB 7 ds]))
  | [.dat .nilp], [] => .leaf ([.dat (.slc .one [])], [])
  | _, _ => .fail
theorem cslots_ok : FunOk Try.prog 15 (FunT.run C_slots) := slots_ok.of (by
  intro args σ r h
  unfold C_slots at h
  split at h
  · rename_i ds
    obtain ⟨hc, h'⟩ := T.chk_some h
    rw [← T.leaf_some h']
    unfold S_slots
    simp only [hc, decide_true, Bool.true_and, T.run_chk, cond_true, T.run_leaf, beq_self, seg_full]
  · exact h
  · simp [T.run_fail] at h)

def S_count : FunT := fun args σ => match args, σ with
  | [AV.ptr (Sh.agg [Sh.one, Sh.one]) 0 0 []], [{ sh := Sh.agg [Sh.one, Sh.one], dyn := false, frz := false, v := AV.dat (D.agg [D.slc Sh.one ds, D.fn (Fn.func 7) [] []]) }] => 
    .chk (okL ds) (.leaf ([AV.dat (D.int IntKind.i64 (↑(List.length (slotsTo ds (List.length ds))) : Int))], [{ sh := Sh.agg [Sh.one, Sh.one], dyn := false, frz := false, v := AV.dat (D.agg [D.slc Sh.one ds, D.fn (Fn.func (7 : Nat)) [] []]) }]))
  | _, _ => .fail
theorem count_case0 (ds : List D) : runF (envOf tab [(15, C_slots)] [] [] []) true Try.f17 [pR 0] [rowB 7 ds] = FunT.run S_count [pR 0] [rowB 7 ds] := by kernel_rfl
theorem count_ok : FunOk Try.prog 17 (FunT.run S_count) := by
  refine fun_ok (E := envOf tab [(15, C_slots)] [] [] []) (fz := true) (fn := Try.f17) (envOf_ok progOk (.cons cslots_ok (.nil _))) (by kernel_rfl) (by kernel_rfl) (loops_none (by kernel_rfl)) ?_
  intro args σ r h
  unfold S_count at h
  split at h
  · exact (count_case0 _).trans h
  · simp [T.run_fail] at h


def rfirst_fr (_ : Store) (ds : List D) : Int → Frame' := fun i => mkF 17 [(0, .dat (.slc .one ds)), (4, .dat (.int .i64 i))]
def rfirst_st (σ : Store) (_ : List D) : Int → Store := fun _ => σ
def rfirst_step (σ : Store) (ds : List D) : Int → T (Int ⊕ LOut) := fun i => 
  .br (decide (i < (↑(List.length ds) : Int))) (
   .chk (decide ((0 : Int) ≤ i)) (
    .chk (decide (Int.toNat i < List.length ds)) (
     .chk (okE (Ek.int IntKind.i64) (nthD ds (Int.toNat i))) (
      .br (D.getI (nthD ds (Int.toNat i)) == (0 : Int)) (.leaf (.inr (none, mkF (17 : Nat) [((2 : Nat), AV.dat (D.int IntKind.i64 i)), ((3 : Nat), AV.dat (D.int IntKind.i64 (0 : Int)))], σ))) (.leaf (.inl (IntKind.wrap IntKind.i64 (i + (1 : Int))))))))) (.leaf (.inr ((some (0 : Nat)), mkF (17 : Nat) [], σ)))
theorem rfirst_round (lp : Loops) (σ : Store) (ds : List D) (i : Int) (K : Kt) : oneRound (envOf tab [] [] lp []) Try.f9 0 (σ.length) (mkF 17 [(0, .dat (.slc .one ds)), (4, .dat (.int .i64 i))]) (σ) K =
  (bif decide (i < (↑(List.length ds) : Int)) then 
   (bif decide ((0 : Int) ≤ i) then 
    (bif decide (Int.toNat i < List.length ds) then 
     (bif okE (Ek.int IntKind.i64) (nthD ds (Int.toNat i)) then 
      (bif D.getI (nthD ds (Int.toNat i)) == (0 : Int) then K (Exit.ret) (mkF (17 : Nat) [((2 : Nat), AV.dat (D.int IntKind.i64 i)), ((3 : Nat), AV.dat (D.int IntKind.i64 (0 : Int)))]) (σ) else K (Exit.normal) (mkF (17 : Nat) [((0 : Nat), AV.dat (D.slc Sh.one ds)), ((4 : Nat), AV.dat (D.int IntKind.i64 (IntKind.wrap IntKind.i64 (i + (1 : Int))))), ((9 : Nat), AV.dat (D.int IntKind.i64 i)), ((10 : Nat), AV.dat (D.int IntKind.i64 (IntKind.wrap IntKind.i64 (i + (1 : Int)))))]) (σ)) else none) else none) else none) else K (Exit.exit (0 : Nat)) (mkF (17 : Nat) []) (σ)) := by kernel_rfl
theorem rfirst_hr (lp : Loops) (σ : Store) (ds : List D) : ∀ (sA : Int) (K : Kt) (N : Int → Option Res), (∀ sB fr' σ', cleanF (liveAt Try.f9 0) 0 fr' = rfirst_fr σ ds sB → trim (σ.length) (rfirst_fr σ ds sB) σ' = rfirst_st σ ds sB → K .normal fr' σ' = N sB) →
    oneRound (envOf tab [] [] lp []) Try.f9 0 (σ.length) (rfirst_fr σ ds sA) (rfirst_st σ ds sA) K = (rfirst_step σ ds sA).k (LK K N) := by
  intro i K N hN
  exact (rfirst_round lp σ ds i K).trans (cong2 (cong2 (cong2 (cong2 (cong2 rfl (hN (IntKind.wrap IntKind.i64 (i + (1 : Int))) _ _ (by kernel_rfl) (trim_self (Nat.le_refl _)))) rfl) rfl) rfl) rfl)
theorem rfirst_enter (σ : Store) (ds : List D) (i : Int) (fr : Frame') (hl : Nat.beq fr.length 17 = true) (g0 : fr.getD 0 .undef = AV.dat (D.slc Sh.one ds)) (g4 : fr.getD 4 .undef = AV.dat (D.int IntKind.i64 i)) : cleanF (liveAt Try.f9 0) 0 fr = rfirst_fr σ ds i := by
  have e : liveAt Try.f9 0 = [0, 4] := by kernel_rfl
  rw [clean_mk (Nat.eq_of_beq_eq_true hl), e]
  show mkF 17 [(0, fr.getD 0 .undef), (4, fr.getD 4 .undef)] = _
  rw [g0, g4]
  kernel_rfl


abbrev zeroE (d : D) : Bool := D.getI d == 0
theorem zeroE_eq : zeroE = zeroD := by
  funext d
  show (d.getI == 0) = !(d.getI != 0)
  cases h : d.getI == 0 <;> simp [bne, h]
theorem rfirst_closed (σ : Store) (ds : List D) (hc : okL ds = true) :
    ∃ m, (iterT (rfirst_step σ ds) m 0).run = T.run (.br (ds.any zeroD) (.leaf (none, mkF 17 [(2, .dat (.int .i64 (ds.findIdx zeroD : Nat))), (3, .dat (.int .i64 0))], σ)) (.leaf (some 0, mkF 17 [], σ))) := by
  obtain ⟨h1, h2⟩ := okL_spec hc
  obtain ⟨m, hm⟩ := iter_find (step := rfirst_step σ ds) (ls := ds) (p := zeroD) (o := fun k => (none, mkF 17 [(2, .dat (.int .i64 (k : Int))), (3, .dat (.int .i64 0))], σ)) (o' := (some 0, mkF 17 [], σ))
    (fun k hk => by
      rw [← zeroE_eq]
      unfold rfirst_step
      rw [decide_eq_true (show (k : Int) < (ds.length : Int) by omega), decide_eq_true (show (0 : Int) ≤ (k : Int) by omega), decide_eq_true (show Int.toNat (k : Int) < ds.length by omega), Int.toNat_natCast, allE_nth h1 hk, wrap_succ (by omega)]
      show _ = some (bif (D.getI (nthD ds k) == 0) then _ else _)
      cases (D.getI (nthD ds k) == 0) <;> rfl)
    (by
      unfold rfirst_step
      rw [decide_eq_false (show ¬ (ds.length : Int) < (ds.length : Int) by omega)]
      rfl)
  refine ⟨m, hm.trans ?_⟩
  cases ds.any zeroD <;> rfl

def L_rfirst : Frame' → Store → T (Exit × Frame' × Store) := fun fr σ => match fr.getD 0 .undef, fr.getD 4 .undef with
  | AV.dat (D.slc Sh.one ds), AV.dat (D.int IntKind.i64 0) => .chk (Nat.beq fr.length 17 && (okL ds)) (T.bind (.br (ds.any zeroD) (.leaf (none, mkF 17 [(2, .dat (.int .i64 (ds.findIdx zeroD : Nat))), (3, .dat (.int .i64 0))], σ)) (.leaf (some 0, mkF 17 [], σ))) fun o => .leaf (outEx o.1, o.2.1, o.2.2))
  | _, _ => .fail
theorem rfirst_loopOk (lp : Loops) (hk : Loops.get lp 2 = some L_rfirst) : LoopOk (envOf tab [] [] lp []) (loopAt Try.f9 0).1 (loopAt Try.f9 0).2 := by
  refine loop_ok (L := L_rfirst) hk ?_
  intro fr σ p h K r hK
  unfold L_rfirst at h
  split at h
  · rename_i ds g0 g4
    obtain ⟨hc, h'⟩ := T.chk_some h
    rw [Bool.and_eq_true] at hc
    obtain ⟨hl, hc⟩ := hc
    obtain ⟨o, ho, h'⟩ := T.bind_some h'
    have hp := T.leaf_some h'
    subst hp
    obtain ⟨nF, hn⟩ : ∃ nF, (iterT (rfirst_step σ ds) nF (0)).run = T.run (.br (ds.any zeroD) (.leaf (none, mkF 17 [(2, .dat (.int .i64 (ds.findIdx zeroD : Nat))), (3, .dat (.int .i64 0))], σ)) (.leaf (some 0, mkF 17 [], σ))) := rfirst_closed σ ds hc
    rw [ho] at hn
    refine ⟨nF, ?_⟩
    have he : cleanF (liveAt Try.f9 0) 0 fr = rfirst_fr σ ds (0) := rfirst_enter σ ds _ fr hl g0 g4
    refine (iter_ok (base := σ.length) (rfirst_hr lp σ ds) K nF (0) _ _ (by rw [clean_clean]; exact he) (trim_self (Nat.le_refl _))).trans ?_
    rw [T.k_run hn]
    exact hK
  · simp [T.run_fail] at h


def S_rfirst : FunT := fun args σ => match args, σ with
  | [AV.dat (D.slc Sh.one ds)], [] => 
    .chk (okL ds) (.leaf ([AV.dat (D.int IntKind.i64 (bif List.any ds zeroD then (↑(List.findIdx zeroD ds) : Int) else (0 : Int))), AV.dat (D.int IntKind.i64 (bif List.any ds zeroD then (0 : Int) else (8 : Int)))], []))
  | _, _ => .fail
theorem rfirst_raw0 (ds : List D) : runF (envOf tab [] [] [(2, L_rfirst)] []) true Try.f9 [.dat (.slc .one ds)] [] =
  (bif okL ds then 
   (bif List.any ds zeroD then some ([AV.dat (D.int IntKind.i64 (↑(List.findIdx zeroD ds) : Int)), AV.dat (D.int IntKind.i64 (0 : Int))], []) else some ([AV.dat (D.int IntKind.i64 (0 : Int)), AV.dat (D.int IntKind.i64 (8 : Int))], [])) else none) := by kernel_rfl
theorem rfirst_case0 (ds : List D) : runF (envOf tab [] [] [(2, L_rfirst)] []) true Try.f9 [.dat (.slc .one ds)] [] = FunT.run S_rfirst [.dat (.slc .one ds)] [] := (rfirst_raw0 ds).trans (cong2 (cond_cases (fun h0 => (by (try rw [h0]) <;> rfl)) (fun h0 => (by (try rw [h0]) <;> rfl))) rfl)
theorem rfirst_ok : FunOk Try.prog 9 (FunT.run S_rfirst) := by
  refine fun_ok (E := envOf tab [] [] [(2, L_rfirst)] []) (fz := true) (fn := Try.f9) (envOf_ok progOk (.nil _)) (by kernel_rfl) (by kernel_rfl) (loops_one (by kernel_rfl) (rfirst_loopOk _ rfl)) ?_
  intro args σ r h
  unfold S_rfirst at h
  split at h
  · exact (rfirst_case0 _).trans h
  · simp [T.run_fail] at h


def rslots_fr (ds : List D) : (Int × Nat × List D) → Frame' := fun ⟨i, m, _⟩ => mkF 21 [(0, .dat (.slc .one ds)), (3, .sref .one 0 m [] 0 m), (4, .dat (.int .i64 i))]
def rslots_st (_ : List D) : (Int × Nat × List D) → Store := fun ⟨_, _, out⟩ => [mkDyn .one out]
def rslots_step (ds : List D) : (Int × Nat × List D) → T ((Int × Nat × List D) ⊕ LOut) := fun ⟨i, m, out⟩ => 
  .br (decide (i < (↑(List.length ds) : Int))) (
   .chk (decide ((0 : Int) ≤ i)) (
    .chk (decide (Int.toNat i < List.length ds)) (
     .chk (okE (Ek.int IntKind.i64) (nthD ds (Int.toNat i))) (
      .br (D.getI (nthD ds (Int.toNat i)) != (0 : Int)) (
       .chk (Nat.beq (List.length out) m && true && true && true && true && Nat.beq m m && true && true && decide ((m + (1 : Nat)) * (8 : Nat) ≤ (35184372088832 : Nat))) (.leaf (.inl ((IntKind.wrap IntKind.i64 (i + (1 : Int))), (m + (1 : Nat)), (out ++ [D.int IntKind.i64 i]))))) (.leaf (.inl ((IntKind.wrap IntKind.i64 (i + (1 : Int))), (m), (out)))))))) (.leaf (.inr ((some (0 : Nat)), mkF (21 : Nat) [((3 : Nat), AV.sref Sh.one (0 : Nat) m [] (0 : Nat) m)], [{ sh := Sh.arr Sh.one (0 : Nat), dyn := true, frz := false, v := AV.dat (D.arr Sh.one out) }])))
theorem rslots_round (lp : Loops) (ds : List D) (i : Int) (m : Nat) (out : List D) (K : Kt) : oneRound (envOf tab [] [] lp [(2, 0, [.own 3])]) Try.f16 0 (1) (mkF 21 [(0, .dat (.slc .one ds)), (3, .sref .one 0 m [] 0 m), (4, .dat (.int .i64 i))]) ([mkDyn .one out]) K =
  (bif decide (i < (↑(List.length ds) : Int)) then 
   (bif decide ((0 : Int) ≤ i) then 
    (bif decide (Int.toNat i < List.length ds) then 
     (bif okE (Ek.int IntKind.i64) (nthD ds (Int.toNat i)) then 
      (bif D.getI (nthD ds (Int.toNat i)) != (0 : Int) then 
       (bif Nat.beq (List.length out) m && true && true && true && true && Nat.beq m m && true && true && decide ((m + (1 : Nat)) * (8 : Nat) ≤ (35184372088832 : Nat)) then K (Exit.normal) (mkF (21 : Nat) [((0 : Nat), AV.dat (D.slc Sh.one ds)), ((3 : Nat), AV.sref Sh.one (0 : Nat) (m + (1 : Nat)) [] (0 : Nat) (m + (1 : Nat))), ((4 : Nat), AV.dat (D.int IntKind.i64 (IntKind.wrap IntKind.i64 (i + (1 : Int))))), ((9 : Nat), AV.dat (D.int IntKind.i64 i)), ((10 : Nat), AV.dat (D.int IntKind.i64 (IntKind.wrap IntKind.i64 (i + (1 : Int)))))]) ([{ sh := Sh.arr Sh.one (0 : Nat), dyn := true, frz := false, v := AV.dat (D.arr Sh.one (out ++ [D.int IntKind.i64 i])) }, { sh := Sh.arr Sh.one (0 : Nat), dyn := true, frz := false, v := AV.dat (D.arr Sh.one [D.int IntKind.i64 i]) }]) else none) else K (Exit.normal) (mkF (21 : Nat) [((0 : Nat), AV.dat (D.slc Sh.one ds)), ((3 : Nat), AV.sref Sh.one (0 : Nat) m [] (0 : Nat) m), ((4 : Nat), AV.dat (D.int IntKind.i64 (IntKind.wrap IntKind.i64 (i + (1 : Int))))), ((9 : Nat), AV.dat (D.int IntKind.i64 i)), ((10 : Nat), AV.dat (D.int IntKind.i64 (IntKind.wrap IntKind.i64 (i + (1 : Int)))))]) ([{ sh := Sh.arr Sh.one (0 : Nat), dyn := true, frz := false, v := AV.dat (D.arr Sh.one out) }])) else none) else none) else none) else K (Exit.exit (0 : Nat)) (mkF (21 : Nat) [((3 : Nat), AV.sref Sh.one (0 : Nat) m [] (0 : Nat) m)]) ([{ sh := Sh.arr Sh.one (0 : Nat), dyn := true, frz := false, v := AV.dat (D.arr Sh.one out) }])) := by kernel_rfl
theorem rslots_hr (lp : Loops) (ds : List D) : ∀ (sA : (Int × Nat × List D)) (K : Kt) (N : (Int × Nat × List D) → Option Res), (∀ sB fr' σ', cleanF (liveAt Try.f16 0) 0 fr' = rslots_fr ds sB → trim (1) (rslots_fr ds sB) σ' = rslots_st ds sB → K .normal fr' σ' = N sB) →
    oneRound (envOf tab [] [] lp [(2, 0, [.own 3])]) Try.f16 0 (1) (rslots_fr ds sA) (rslots_st ds sA) K = (rslots_step ds sA).k (LK K N) := by
  intro sA K N hN
  obtain ⟨i, m, out⟩ := sA
  exact (rslots_round lp ds i m out K).trans (cong2 (cong2 (cong2 (cong2 (cong2 (cong2 (hN ((IntKind.wrap IntKind.i64 (i + (1 : Int))), (m + (1 : Nat)), (out ++ [D.int IntKind.i64 i])) _ _ (by kernel_rfl) (by kernel_rfl)) rfl) (hN ((IntKind.wrap IntKind.i64 (i + (1 : Int))), (m), (out)) _ _ (by kernel_rfl) (by kernel_rfl))) rfl) rfl) rfl) rfl)
theorem rslots_enter (ds : List D) (i : Int) (m : Nat) (out : List D) (fr : Frame') (hl : Nat.beq fr.length 21 = true) (g0 : fr.getD 0 .undef = AV.dat (D.slc Sh.one ds)) (g3 : fr.getD 3 .undef = AV.sref Sh.one 0 m [] 0 m) (g4 : fr.getD 4 .undef = AV.dat (D.int IntKind.i64 i)) : cleanF (liveAt Try.f16 0) 0 fr = rslots_fr ds (i, m, out) := by
  have e : liveAt Try.f16 0 = [0, 4, 3] := by kernel_rfl
  rw [clean_mk (Nat.eq_of_beq_eq_true hl), e]
  show mkF 21 [(0, fr.getD 0 .undef), (4, fr.getD 4 .undef), (3, fr.getD 3 .undef)] = _
  rw [g0, g4, g3]
  kernel_rfl


theorem rslots_closed (ds : List D) (hc : okL ds = true) :
    ∃ k, (iterT (rslots_step ds) k (0, 0, [])).run = T.run (.leaf (some 0, mkF 21 [(3, .sref .one 0 (slotsTo ds ds.length).length [] 0 (slotsTo ds ds.length).length)], [mkDyn .one (slotsTo ds ds.length)])) := by
  obtain ⟨h1, h2⟩ := okL_spec hc
  refine iter_range (n := ds.length) (fun i => ((slotsTo ds i).length, slotsTo ds i)) (fun i hi => ?_) ?_
  · unfold rslots_step
    have := slotsTo_len ds i
    simp only [decide_eq_true (show (i : Int) < (ds.length : Int) by omega), decide_eq_true (show (0 : Int) ≤ (i : Int) by omega), Int.toNat_natCast, decide_eq_true hi, allE_nth h1 hi, wrap_succ (show i < 2 ^ 62 by omega), beq_self, decide_eq_true (show ((slotsTo ds i).length + 1) * 8 ≤ 35184372088832 by omega), slotsTo_succ]
    cases D.getI (nthD ds i) != 0 with
    | true => simp only [cond_true, List.length_append]; rfl
    | false => rfl
  · unfold rslots_step
    simp only [decide_eq_false (show ¬ (ds.length : Int) < (ds.length : Int) by omega)]
    rfl

def L_rslots : Frame' → Store → T (Exit × Frame' × Store) := fun fr σ => match fr.getD 0 .undef, fr.getD 3 .undef, fr.getD 4 .undef, σ with
  | AV.dat (D.slc Sh.one ds), AV.sref Sh.one 0 0 [] 0 0, AV.dat (D.int IntKind.i64 0), [{ sh := Sh.arr Sh.one 0, dyn := true, frz := false, v := AV.dat (D.arr Sh.one []) }] => .chk (Nat.beq fr.length 21 && (okL ds)) (T.bind (.leaf (some 0, mkF 21 [(3, .sref .one 0 (slotsTo ds ds.length).length [] 0 (slotsTo ds ds.length).length)], [mkDyn .one (slotsTo ds ds.length)])) fun o => .leaf (outEx o.1, o.2.1, o.2.2))
  | _, _, _, _ => .fail
theorem rslots_loopOk (lp : Loops) (hk : Loops.get lp 3 = some L_rslots) : LoopOk (envOf tab [] [] lp [(2, 0, [.own 3])]) (loopAt Try.f16 0).1 (loopAt Try.f16 0).2 := by
  refine loop_ok (L := L_rslots) hk ?_
  intro fr σ p h K r hK
  unfold L_rslots at h
  split at h
  · rename_i ds g0 g3 g4
    obtain ⟨hc, h'⟩ := T.chk_some h
    rw [Bool.and_eq_true] at hc
    obtain ⟨hl, hc⟩ := hc
    obtain ⟨o, ho, h'⟩ := T.bind_some h'
    have hp := T.leaf_some h'
    subst hp
    obtain ⟨nF, hn⟩ : ∃ nF, (iterT (rslots_step ds) nF ((0, 0, []))).run = T.run (.leaf (some 0, mkF 21 [(3, .sref .one 0 (slotsTo ds ds.length).length [] 0 (slotsTo ds ds.length).length)], [mkDyn .one (slotsTo ds ds.length)])) := rslots_closed ds hc
    rw [ho] at hn
    refine ⟨nF, ?_⟩
    have he : cleanF (liveAt Try.f16 0) 0 fr = rslots_fr ds ((0, 0, [])) := rslots_enter ds _ _ _ fr hl g0 g3 g4
    refine (iter_ok (base := 1) (rslots_hr lp ds) K nF ((0, 0, [])) _ _ (by rw [clean_clean]; exact he) (by kernel_rfl)).trans ?_
    rw [T.k_run hn]
    exact hK
  · simp [T.run_fail] at h


def S_rslots : FunT := fun args σ => match args, σ with
  | [AV.dat (D.slc Sh.one ds)], [] => 
    .chk (okL ds) (
     .chk (Nat.beq (List.length (slotsTo ds (List.length ds))) (List.length (slotsTo ds (List.length ds)))) (.leaf ([AV.dat (D.slc Sh.one (seg (slotsTo ds (List.length ds)) (0 : Nat) (List.length (slotsTo ds (List.length ds)))))], [])))
  | _, _ => .fail
theorem rslots_case0 (ds : List D) : runF (envOf tab [] [] [(3, L_rslots)] [(2, 0, [.own 3])]) true Try.f16 [.dat (.slc .one ds)] [] = FunT.run S_rslots [.dat (.slc .one ds)] [] := by kernel_rfl
theorem rslots_ok : FunOk Try.prog 16 (FunT.run S_rslots) := by
  refine fun_ok (E := envOf tab [] [] [(3, L_rslots)] [(2, 0, [.own 3])]) (fz := true) (fn := Try.f16) (envOf_ok progOk (.nil _)) (by kernel_rfl) (by kernel_rfl) (loops_one (by kernel_rfl) (rslots_loopOk _ rfl)) ?_
  intro args σ r h
  unfold S_rslots at h
  split at h
  · exact (rslots_case0 _).trans h
  · simp [T.run_fail] at h


def rput_fr (ds : List D) (at_ x : Int) : (Int × Nat × List D) → Frame' := fun ⟨i, m, _⟩ => mkF 39 [(0, .dat (.slc .one ds)), (1, .dat (.int .i64 at_)), (2, .dat (.int .i64 x)), (8, .sref .one 0 m [] 0 m), (9, .dat (.int .i64 i))]
def rput_st (_ : List D) (_ _ : Int) : (Int × Nat × List D) → Store := fun ⟨_, _, out⟩ => [mkDyn .one out]
def rput_step (ds : List D) (at_ x : Int) : (Int × Nat × List D) → T ((Int × Nat × List D) ⊕ LOut) := fun ⟨i, m, out⟩ => 
  .br (decide (i < (↑(List.length ds) : Int))) (
   .br (i == at_) (
    .chk (Nat.beq (List.length out) m && true && true && true && true && Nat.beq m m && true && true && decide ((m + (1 : Nat)) * (8 : Nat) ≤ (35184372088832 : Nat))) (.leaf (.inl ((IntKind.wrap IntKind.i64 (i + (1 : Int))), (m + (1 : Nat)), (out ++ [D.int IntKind.i64 x]))))) (
    .chk (decide ((0 : Int) ≤ i)) (
     .chk (decide (Int.toNat i < List.length ds)) (
      .chk (okE (Ek.int IntKind.i64) (nthD ds (Int.toNat i))) (
       .chk (Nat.beq (List.length out) m && true && true && true && true && Nat.beq m m && true && true && decide ((m + (1 : Nat)) * (8 : Nat) ≤ (35184372088832 : Nat))) (.leaf (.inl ((IntKind.wrap IntKind.i64 (i + (1 : Int))), (m + (1 : Nat)), (out ++ [D.int IntKind.i64 (D.getI (nthD ds (Int.toNat i)))]))))))))) (.leaf (.inr ((some (0 : Nat)), mkF (39 : Nat) [((8 : Nat), AV.sref Sh.one (0 : Nat) m [] (0 : Nat) m)], [{ sh := Sh.arr Sh.one (0 : Nat), dyn := true, frz := false, v := AV.dat (D.arr Sh.one out) }])))
theorem rput_round (lp : Loops) (ds : List D) (at_ x : Int) (i : Int) (m : Nat) (out : List D) (K : Kt) : oneRound (envOf tab [] [] lp [(4, 0, [.own 8])]) Try.f11 0 (1) (mkF 39 [(0, .dat (.slc .one ds)), (1, .dat (.int .i64 at_)), (2, .dat (.int .i64 x)), (8, .sref .one 0 m [] 0 m), (9, .dat (.int .i64 i))]) ([mkDyn .one out]) K =
  (bif decide (i < (↑(List.length ds) : Int)) then 
   (bif i == at_ then 
    (bif Nat.beq (List.length out) m && true && true && true && true && Nat.beq m m && true && true && decide ((m + (1 : Nat)) * (8 : Nat) ≤ (35184372088832 : Nat)) then K (Exit.normal) (mkF (39 : Nat) [((0 : Nat), AV.dat (D.slc Sh.one ds)), ((1 : Nat), AV.dat (D.int IntKind.i64 at_)), ((2 : Nat), AV.dat (D.int IntKind.i64 x)), ((8 : Nat), AV.sref Sh.one (0 : Nat) (m + (1 : Nat)) [] (0 : Nat) (m + (1 : Nat))), ((9 : Nat), AV.dat (D.int IntKind.i64 (IntKind.wrap IntKind.i64 (i + (1 : Int))))), ((22 : Nat), AV.dat (D.int IntKind.i64 i)), ((23 : Nat), AV.dat (D.int IntKind.i64 (IntKind.wrap IntKind.i64 (i + (1 : Int)))))]) ([{ sh := Sh.arr Sh.one (0 : Nat), dyn := true, frz := false, v := AV.dat (D.arr Sh.one (out ++ [D.int IntKind.i64 x])) }, { sh := Sh.arr Sh.one (0 : Nat), dyn := true, frz := false, v := AV.dat (D.arr Sh.one [D.int IntKind.i64 x]) }]) else none) else 
    (bif decide ((0 : Int) ≤ i) then 
     (bif decide (Int.toNat i < List.length ds) then 
      (bif okE (Ek.int IntKind.i64) (nthD ds (Int.toNat i)) then 
       (bif Nat.beq (List.length out) m && true && true && true && true && Nat.beq m m && true && true && decide ((m + (1 : Nat)) * (8 : Nat) ≤ (35184372088832 : Nat)) then K (Exit.normal) (mkF (39 : Nat) [((0 : Nat), AV.dat (D.slc Sh.one ds)), ((1 : Nat), AV.dat (D.int IntKind.i64 at_)), ((2 : Nat), AV.dat (D.int IntKind.i64 x)), ((8 : Nat), AV.sref Sh.one (0 : Nat) (m + (1 : Nat)) [] (0 : Nat) (m + (1 : Nat))), ((9 : Nat), AV.dat (D.int IntKind.i64 (IntKind.wrap IntKind.i64 (i + (1 : Int))))), ((22 : Nat), AV.dat (D.int IntKind.i64 i)), ((23 : Nat), AV.dat (D.int IntKind.i64 (IntKind.wrap IntKind.i64 (i + (1 : Int)))))]) ([{ sh := Sh.arr Sh.one (0 : Nat), dyn := true, frz := false, v := AV.dat (D.arr Sh.one (out ++ [D.int IntKind.i64 (D.getI (nthD ds (Int.toNat i)))])) }, { sh := Sh.arr Sh.one (0 : Nat), dyn := true, frz := false, v := AV.dat (D.arr Sh.one [D.int IntKind.i64 (D.getI (nthD ds (Int.toNat i)))]) }]) else none) else none) else none) else none)) else K (Exit.exit (0 : Nat)) (mkF (39 : Nat) [((8 : Nat), AV.sref Sh.one (0 : Nat) m [] (0 : Nat) m)]) ([{ sh := Sh.arr Sh.one (0 : Nat), dyn := true, frz := false, v := AV.dat (D.arr Sh.one out) }])) := by kernel_rfl
theorem rput_hr (lp : Loops) (ds : List D) (at_ x : Int) : ∀ (sA : (Int × Nat × List D)) (K : Kt) (N : (Int × Nat × List D) → Option Res), (∀ sB fr' σ', cleanF (liveAt Try.f11 0) 0 fr' = rput_fr ds at_ x sB → trim (1) (rput_fr ds at_ x sB) σ' = rput_st ds at_ x sB → K .normal fr' σ' = N sB) →
    oneRound (envOf tab [] [] lp [(4, 0, [.own 8])]) Try.f11 0 (1) (rput_fr ds at_ x sA) (rput_st ds at_ x sA) K = (rput_step ds at_ x sA).k (LK K N) := by
  intro sA K N hN
  obtain ⟨i, m, out⟩ := sA
  exact (rput_round lp ds at_ x i m out K).trans (cong2 (cong2 (cong2 (hN ((IntKind.wrap IntKind.i64 (i + (1 : Int))), (m + (1 : Nat)), (out ++ [D.int IntKind.i64 x])) _ _ (by kernel_rfl) (by kernel_rfl)) rfl) (cong2 (cong2 (cong2 (cong2 (hN ((IntKind.wrap IntKind.i64 (i + (1 : Int))), (m + (1 : Nat)), (out ++ [D.int IntKind.i64 (D.getI (nthD ds (Int.toNat i)))])) _ _ (by kernel_rfl) (by kernel_rfl)) rfl) rfl) rfl) rfl)) rfl)
theorem rput_enter (ds : List D) (at_ x : Int) (i : Int) (m : Nat) (out : List D) (fr : Frame') (hl : Nat.beq fr.length 39 = true) (g0 : fr.getD 0 .undef = AV.dat (D.slc Sh.one ds)) (g1 : fr.getD 1 .undef = AV.dat (D.int IntKind.i64 at_)) (g2 : fr.getD 2 .undef = AV.dat (D.int IntKind.i64 x)) (g8 : fr.getD 8 .undef = AV.sref Sh.one 0 m [] 0 m) (g9 : fr.getD 9 .undef = AV.dat (D.int IntKind.i64 i)) : cleanF (liveAt Try.f11 0) 0 fr = rput_fr ds at_ x (i, m, out) := by
  have e : liveAt Try.f11 0 = [1, 2, 0, 9, 8] := by kernel_rfl
  rw [clean_mk (Nat.eq_of_beq_eq_true hl), e]
  show mkF 39 [(1, fr.getD 1 .undef), (2, fr.getD 2 .undef), (0, fr.getD 0 .undef), (9, fr.getD 9 .undef), (8, fr.getD 8 .undef)] = _
  rw [g1, g2, g0, g9, g8]
  kernel_rfl


theorem nthD_set {ds : List D} {i j : Nat} {d : D} (h : j < ds.length) : nthD (ds.set i d) j = if i = j then d else nthD ds j := by
  unfold nthD
  rw [List.getD_eq_getElem?_getD, List.getD_eq_getElem?_getD, List.getElem?_set]
  by_cases hij : i = j
  · subst hij; simp [h]
  · simp [hij]

theorem rput_closed (ds : List D) (at_ x : Int) (hc : (okL ds && decide (0 ≤ at_)) = true) :
    ∃ k, (iterT (rput_step ds at_ x) k (0, 0, [])).run = T.run (.leaf (some 0, mkF 39 [(8, .sref .one 0 ds.length [] 0 ds.length)], [mkDyn .one (ds.set at_.toNat (.int .i64 x))])) := by
  simp only [Bool.and_eq_true, decide_eq_true_eq] at hc
  obtain ⟨hc, h3⟩ := hc
  obtain ⟨h1, h2⟩ := okL_spec hc
  have e : ∀ i, i ≤ ds.length → ((ds.set at_.toNat (.int .i64 x)).take i).length = i := fun i hi => by rw [List.length_take, List.length_set]; omega
  have key := iter_range (step := rput_step ds at_ x) (n := ds.length) (o := (some 0, mkF 39 [(8, .sref .one 0 ds.length [] 0 ds.length)], [mkDyn .one (ds.set at_.toNat (.int .i64 x))])) (fun i => (i, (ds.set at_.toNat (.int .i64 x)).take i)) (fun i hi => ?_) ?_
  · exact key
  · unfold rput_step
    have hs : (ds.set at_.toNat (.int .i64 x)).take (i + 1) = (ds.set at_.toNat (.int .i64 x)).take i ++ [if at_.toNat = i then .int .i64 x else nthD ds i] := by
      rw [take_succ_nth (by rw [List.length_set]; exact hi), nthD_set hi]
    simp only [decide_eq_true (show (i : Int) < (ds.length : Int) by omega), decide_eq_true (show (0 : Int) ≤ (i : Int) by omega), Int.toNat_natCast, decide_eq_true hi, allE_nth h1 hi, wrap_succ (show i < 2 ^ 62 by omega), e i (by omega), beq_self, decide_eq_true (show (i + 1) * 8 ≤ 35184372088832 by omega), hs, ofE_int (allE_nth h1 hi)]
    by_cases ha : (i : Int) = at_
    · have : at_.toNat = i := by omega
      rw [if_pos this, beq_iff_eq.2 ha]; rfl
    · have : ¬ at_.toNat = i := by omega
      rw [if_neg this, beq_eq_false_iff_ne.2 ha]; rfl
  · unfold rput_step
    have e2 : (ds.set at_.toNat (.int .i64 x)).take ds.length = ds.set at_.toNat (.int .i64 x) := List.take_of_length_le (by rw [List.length_set]; exact Nat.le_refl _)
    simp only [decide_eq_false (show ¬ (ds.length : Int) < (ds.length : Int) by omega), e2]
    rfl

def L_rput : Frame' → Store → T (Exit × Frame' × Store) := fun fr σ => match fr.getD 0 .undef, fr.getD 1 .undef, fr.getD 2 .undef, fr.getD 8 .undef, fr.getD 9 .undef, σ with
  | AV.dat (D.slc Sh.one ds), AV.dat (D.int IntKind.i64 at_), AV.dat (D.int IntKind.i64 x), AV.sref Sh.one 0 0 [] 0 0, AV.dat (D.int IntKind.i64 0), [{ sh := Sh.arr Sh.one 0, dyn := true, frz := false, v := AV.dat (D.arr Sh.one []) }] => .chk (Nat.beq fr.length 39 && (okL ds && decide (0 ≤ at_))) (T.bind (.leaf (some 0, mkF 39 [(8, .sref .one 0 ds.length [] 0 ds.length)], [mkDyn .one (ds.set at_.toNat (.int .i64 x))])) fun o => .leaf (outEx o.1, o.2.1, o.2.2))
  | _, _, _, _, _, _ => .fail
theorem rput_loopOk (lp : Loops) (hk : Loops.get lp 5 = some L_rput) : LoopOk (envOf tab [] [] lp [(4, 0, [.own 8])]) (loopAt Try.f11 0).1 (loopAt Try.f11 0).2 := by
  refine loop_ok (L := L_rput) hk ?_
  intro fr σ p h K r hK
  unfold L_rput at h
  split at h
  · rename_i ds at_ x g0 g1 g2 g8 g9
    obtain ⟨hc, h'⟩ := T.chk_some h
    rw [Bool.and_eq_true] at hc
    obtain ⟨hl, hc⟩ := hc
    obtain ⟨o, ho, h'⟩ := T.bind_some h'
    have hp := T.leaf_some h'
    subst hp
    obtain ⟨nF, hn⟩ : ∃ nF, (iterT (rput_step ds at_ x) nF ((0, 0, []))).run = T.run (.leaf (some 0, mkF 39 [(8, .sref .one 0 ds.length [] 0 ds.length)], [mkDyn .one (ds.set at_.toNat (.int .i64 x))])) := rput_closed ds at_ x hc
    rw [ho] at hn
    refine ⟨nF, ?_⟩
    have he : cleanF (liveAt Try.f11 0) 0 fr = rput_fr ds at_ x ((0, 0, [])) := rput_enter ds at_ x _ _ _ fr hl g0 g1 g2 g8 g9
    refine (iter_ok (base := 1) (rput_hr lp ds at_ x) K nF ((0, 0, [])) _ _ (by rw [clean_clean]; exact he) (by kernel_rfl)).trans ?_
    rw [T.k_run hn]
    exact hK
  · simp [T.run_fail] at h


def S_rput : FunT := fun args σ => match args, σ with
  | [AV.dat (D.slc Sh.one ds), AV.dat (D.int IntKind.i64 at_), AV.dat (D.int IntKind.i64 x)], [] => 
    .br (decide (at_ < (0 : Int)) == false) (
     .br (decide (at_ < (0 : Int))) (.leaf ([AV.dat (D.slc Sh.one []), AV.dat (D.int IntKind.i64 (1 : Int))], [])) (
      .br (decide (at_ ≥ (↑(List.length ds) : Int))) (.leaf ([AV.dat (D.slc Sh.one []), AV.dat (D.int IntKind.i64 (1 : Int))], [])) (
       .chk (okL ds && decide ((0 : Int) ≤ at_)) (
        .chk (Nat.beq (List.length (List.set ds (Int.toNat at_) (D.int IntKind.i64 x))) (List.length ds)) (.leaf ([AV.dat (D.slc Sh.one (seg (List.set ds (Int.toNat at_) (D.int IntKind.i64 x)) (0 : Nat) (List.length ds))), AV.dat (D.int IntKind.i64 (0 : Int))], [])))))) (
     .chk (decide (at_ < (0 : Int))) (.leaf ([AV.dat (D.slc Sh.one []), AV.dat (D.int IntKind.i64 (1 : Int))], [])))
  | _, _ => .fail
theorem rput_case0 (ds : List D) (at_ x : Int) : runF (envOf tab [] [] [(5, L_rput)] [(4, 0, [.own 8])]) true Try.f11 [.dat (.slc .one ds), .dat (.int .i64 at_), .dat (.int .i64 x)] [] = FunT.run S_rput [.dat (.slc .one ds), .dat (.int .i64 at_), .dat (.int .i64 x)] [] := by kernel_rfl
theorem rput_ok : FunOk Try.prog 11 (FunT.run S_rput) := by
  refine fun_ok (E := envOf tab [] [] [(5, L_rput)] [(4, 0, [.own 8])]) (fz := true) (fn := Try.f11) (envOf_ok progOk (.nil _)) (by kernel_rfl) (by kernel_rfl) (loops_one (by kernel_rfl) (rput_loopOk _ rfl)) ?_
  intro args σ r h
  unfold S_rput at h
  split at h
  · exact (rput_case0 _ _ _).trans h
  · simp [T.run_fail] at h


def ints_fr (_ : Store) (a b : List D) : Int → Frame' := fun i => mkF 26 [(0, .dat (.slc .one a)), (1, .dat (.slc .one b)), (5, .dat (.int .i64 i))]
def ints_st (σ : Store) (_ _ : List D) : Int → Store := fun _ => σ
def ints_step (σ : Store) (a b : List D) : Int → T (Int ⊕ LOut) := fun i => 
  .br (decide (i < (↑(List.length a) : Int))) (
   .chk (decide ((0 : Int) ≤ i)) (
    .chk (decide (Int.toNat i < List.length a)) (
     .chk (okE (Ek.int IntKind.i64) (nthD a (Int.toNat i))) (
      .chk (decide ((0 : Int) ≤ i)) (
       .chk (decide (Int.toNat i < List.length b)) (
        .chk (okE (Ek.int IntKind.i64) (nthD b (Int.toNat i))) (
         .br (D.getI (nthD a (Int.toNat i)) != D.getI (nthD b (Int.toNat i))) (.leaf (.inr (none, mkF (26 : Nat) [((4 : Nat), AV.dat (D.bool false))], σ))) (.leaf (.inl (IntKind.wrap IntKind.i64 (i + (1 : Int)))))))))))) (.leaf (.inr ((some (0 : Nat)), mkF (26 : Nat) [], σ)))
theorem ints_round (lp : Loops) (σ : Store) (a b : List D) (i : Int) (K : Kt) : oneRound (envOf tab [] [] lp []) Try.f13 0 (σ.length) (mkF 26 [(0, .dat (.slc .one a)), (1, .dat (.slc .one b)), (5, .dat (.int .i64 i))]) (σ) K =
  (bif decide (i < (↑(List.length a) : Int)) then 
   (bif decide ((0 : Int) ≤ i) then 
    (bif decide (Int.toNat i < List.length a) then 
     (bif okE (Ek.int IntKind.i64) (nthD a (Int.toNat i)) then 
      (bif decide ((0 : Int) ≤ i) then 
       (bif decide (Int.toNat i < List.length b) then 
        (bif okE (Ek.int IntKind.i64) (nthD b (Int.toNat i)) then 
         (bif D.getI (nthD a (Int.toNat i)) != D.getI (nthD b (Int.toNat i)) then K (Exit.ret) (mkF (26 : Nat) [((4 : Nat), AV.dat (D.bool false))]) (σ) else K (Exit.normal) (mkF (26 : Nat) [((0 : Nat), AV.dat (D.slc Sh.one a)), ((1 : Nat), AV.dat (D.slc Sh.one b)), ((5 : Nat), AV.dat (D.int IntKind.i64 (IntKind.wrap IntKind.i64 (i + (1 : Int))))), ((15 : Nat), AV.dat (D.int IntKind.i64 i)), ((16 : Nat), AV.dat (D.int IntKind.i64 (IntKind.wrap IntKind.i64 (i + (1 : Int)))))]) (σ)) else none) else none) else none) else none) else none) else none) else K (Exit.exit (0 : Nat)) (mkF (26 : Nat) []) (σ)) := by kernel_rfl
theorem ints_hr (lp : Loops) (σ : Store) (a b : List D) : ∀ (sA : Int) (K : Kt) (N : Int → Option Res), (∀ sB fr' σ', cleanF (liveAt Try.f13 0) 0 fr' = ints_fr σ a b sB → trim (σ.length) (ints_fr σ a b sB) σ' = ints_st σ a b sB → K .normal fr' σ' = N sB) →
    oneRound (envOf tab [] [] lp []) Try.f13 0 (σ.length) (ints_fr σ a b sA) (ints_st σ a b sA) K = (ints_step σ a b sA).k (LK K N) := by
  intro i K N hN
  exact (ints_round lp σ a b i K).trans (cong2 (cong2 (cong2 (cong2 (cong2 (cong2 (cong2 (cong2 rfl (hN (IntKind.wrap IntKind.i64 (i + (1 : Int))) _ _ (by kernel_rfl) (trim_self (Nat.le_refl _)))) rfl) rfl) rfl) rfl) rfl) rfl) rfl)
theorem ints_enter (σ : Store) (a b : List D) (i : Int) (fr : Frame') (hl : Nat.beq fr.length 26 = true) (g0 : fr.getD 0 .undef = AV.dat (D.slc Sh.one a)) (g1 : fr.getD 1 .undef = AV.dat (D.slc Sh.one b)) (g5 : fr.getD 5 .undef = AV.dat (D.int IntKind.i64 i)) : cleanF (liveAt Try.f13 0) 0 fr = ints_fr σ a b i := by
  have e : liveAt Try.f13 0 = [0, 1, 5] := by kernel_rfl
  rw [clean_mk (Nat.eq_of_beq_eq_true hl), e]
  show mkF 26 [(0, fr.getD 0 .undef), (1, fr.getD 1 .undef), (5, fr.getD 5 .undef)] = _
  rw [g0, g1, g5]
  kernel_rfl


theorem ints_closed (σ : Store) (a b : List D) (hc : (okL a && okL b && decide (a.length = b.length)) = true) :
    ∃ m, (iterT (ints_step σ a b) m 0).run = T.run (.br (D.eqbL a b) (.leaf (some 0, mkF 26 [], σ)) (.leaf (none, mkF 26 [(4, .dat (.bool false))], σ))) := by
  simp only [Bool.and_eq_true, decide_eq_true_eq] at hc
  obtain ⟨⟨ha, hb⟩, hl⟩ := hc
  obtain ⟨h1, h2⟩ := okL_spec ha
  obtain ⟨h3, h4⟩ := okL_spec hb
  obtain ⟨m, hm⟩ := iter_any (step := ints_step σ a b) (n := a.length) (p := fun i => D.getI (nthD a i) != D.getI (nthD b i)) (o := (none, mkF 26 [(4, .dat (.bool false))], σ)) (o' := (some 0, mkF 26 [], σ))
    (fun k hk => by
      unfold ints_step
      rw [decide_eq_true (show (k : Int) < (a.length : Int) by omega), decide_eq_true (show (0 : Int) ≤ (k : Int) by omega), decide_eq_true (show Int.toNat (k : Int) < a.length by omega), decide_eq_true (show Int.toNat (k : Int) < b.length by omega), Int.toNat_natCast, allE_nth h1 hk, allE_nth h3 (by omega : k < b.length), wrap_succ (by omega)]
      cases (D.getI (nthD a k) != D.getI (nthD b k)) <;> rfl)
    (by
      unfold ints_step
      rw [decide_eq_false (show ¬ (a.length : Int) < (a.length : Int) by omega)]
      rfl)
  rw [eqbL_range a b hl h1 h3] at hm
  refine ⟨m, hm.trans ?_⟩
  cases D.eqbL a b <;> rfl

def L_ints : Frame' → Store → T (Exit × Frame' × Store) := fun fr σ => match fr.getD 0 .undef, fr.getD 1 .undef, fr.getD 5 .undef with
  | AV.dat (D.slc Sh.one a), AV.dat (D.slc Sh.one b), AV.dat (D.int IntKind.i64 0) => .chk (Nat.beq fr.length 26 && (okL a && okL b && decide (a.length = b.length))) (T.bind (.br (D.eqbL a b) (.leaf (some 0, mkF 26 [], σ)) (.leaf (none, mkF 26 [(4, .dat (.bool false))], σ))) fun o => .leaf (outEx o.1, o.2.1, o.2.2))
  | _, _, _ => .fail
theorem ints_loopOk (lp : Loops) (hk : Loops.get lp 4 = some L_ints) : LoopOk (envOf tab [] [] lp []) (loopAt Try.f13 0).1 (loopAt Try.f13 0).2 := by
  refine loop_ok (L := L_ints) hk ?_
  intro fr σ p h K r hK
  unfold L_ints at h
  split at h
  · rename_i a b g0 g1 g5
    obtain ⟨hc, h'⟩ := T.chk_some h
    rw [Bool.and_eq_true] at hc
    obtain ⟨hl, hc⟩ := hc
    obtain ⟨o, ho, h'⟩ := T.bind_some h'
    have hp := T.leaf_some h'
    subst hp
    obtain ⟨nF, hn⟩ : ∃ nF, (iterT (ints_step σ a b) nF (0)).run = T.run (.br (D.eqbL a b) (.leaf (some 0, mkF 26 [], σ)) (.leaf (none, mkF 26 [(4, .dat (.bool false))], σ))) := ints_closed σ a b hc
    rw [ho] at hn
    refine ⟨nF, ?_⟩
    have he : cleanF (liveAt Try.f13 0) 0 fr = ints_fr σ a b (0) := ints_enter σ a b _ fr hl g0 g1 g5
    refine (iter_ok (base := σ.length) (ints_hr lp σ a b) K nF (0) _ _ (by rw [clean_clean]; exact he) (trim_self (Nat.le_refl _))).trans ?_
    rw [T.k_run hn]
    exact hK
  · simp [T.run_fail] at h


def S_ints : FunT := fun args σ => match args, σ with
  | [AV.dat (D.slc Sh.one a), AV.dat (D.slc Sh.one b)], [] => 
    .br ((↑(List.length a) : Int) != (↑(List.length b) : Int)) (.leaf ([AV.dat (D.bool false)], [])) (
     .chk (okL a && okL b && decide (List.length a = List.length b)) (.leaf ([AV.dat (D.bool (D.eqbL a b))], [])))
  | _, _ => .fail
theorem ints_raw0 (a b : List D) : runF (envOf tab [] [] [(4, L_ints)] []) true Try.f13 [.dat (.slc .one a), .dat (.slc .one b)] [] =
  (bif (↑(List.length a) : Int) != (↑(List.length b) : Int) then some ([AV.dat (D.bool false)], []) else 
   (bif okL a && okL b && decide (List.length a = List.length b) then 
    (bif D.eqbL a b then some ([AV.dat (D.bool true)], []) else some ([AV.dat (D.bool false)], [])) else none)) := by kernel_rfl
theorem ints_case0 (a b : List D) : runF (envOf tab [] [] [(4, L_ints)] []) true Try.f13 [.dat (.slc .one a), .dat (.slc .one b)] [] = FunT.run S_ints [.dat (.slc .one a), .dat (.slc .one b)] [] := (ints_raw0 a b).trans (cong2 rfl (cong2 (cond_cases (fun h0 => (by (try rw [h0]) <;> rfl)) (fun h0 => (by (try rw [h0]) <;> rfl))) rfl))
theorem ints_ok : FunOk Try.prog 13 (FunT.run S_ints) := by
  refine fun_ok (E := envOf tab [] [] [(4, L_ints)] []) (fz := true) (fn := Try.f13) (envOf_ok progOk (.nil _)) (by kernel_rfl) (by kernel_rfl) (loops_one (by kernel_rfl) (ints_loopOk _ rfl)) ?_
  intro args σ r h
  unfold S_ints at h
  split at h
  · exact (ints_case0 _ _).trans h
  · simp [T.run_fail] at h


end Go.Proofs.Ytdgphkifajcejaa
