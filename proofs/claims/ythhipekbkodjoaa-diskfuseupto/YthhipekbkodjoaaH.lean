/- Seat 07: the document's new disk. -/
import Derived.Test.YthhipekbkodjoaaG
namespace Go.Proofs.Ythhipekbkodjoaa
open Go.AX
set_option maxRecDepth 100000
abbrev HN : Hints := [(666666, 32, [.cut 0]), (2, 0, [.ownAt 3 [0], .ownAt 3 [1]]), (7, 0, [.frzAt 3 [0], .frzAt 3 [1], .frzAt 3 [2]])]
def nl_fr (n : Int) : (Int × Nat × Nat × Nat × Nat × List D × List D) → Frame' := fun ⟨i, _, _, _, _, _, _⟩ => mkF 26 [(0, .dat (.int .i64 n)), (2, .ptr s32 0 0 []), (3, .ptr s32 1 0 []), (4, .dat (.int .i64 i))]
def nl_st (_n : Int) : (Int × Nat × Nat × Nat × Nat × List D × List D) → Store := fun ⟨_, m1, k1, m2, k2, o1, o2⟩ => [zB, ⟨.agg [.one, .one, .one, .one, .one], false, false, .agg [.sref .one 2 m1 [] 0 k1, .sref .one 3 m2 [] 0 k2, .fslc (.agg [.one, .one]) [], .dat (.int .i64 (-1)), .dat (.bool false)]⟩, mkDyn .one o1, mkDyn .one o2]
def nl_step (n : Int) : (Int × Nat × Nat × Nat × Nat × List D × List D) → T ((Int × Nat × Nat × Nat × Nat × List D × List D) ⊕ LOut) := fun ⟨i, m1, k1, m2, k2, o1, o2⟩ =>
  .chk (!decide (i < n) || Nat.beq m1 m1 && true && true && Nat.beq k1 k1 && (Nat.beq (List.length o1) m1 && true && true && true && true && Nat.beq k1 m1 && true && true && decide ((m1 + 1) * 16 ≤ 35184372088832) && (Nat.beq m2 m2 && true && true && Nat.beq k2 k2 && (Nat.beq (List.length o2) m2 && true && true && true && true && Nat.beq k2 m2 && true && true && decide ((m2 + 1) * 16 ≤ 35184372088832))))) (
   .br (!decide (i < n)) (.leaf (.inr ((some 0), mkF 26 [(2, AV.ptr (s32) 0 0 []), (3, AV.ptr (s32) 1 0 [])], [{ sh := s32, dyn := false, frz := false, v := AV.agg [AV.fslc Sh.one [], AV.fslc Sh.one [], AV.fslc (Sh.agg [Sh.one, Sh.one]) [], .dat (.int .i64 0), .dat (.bool false)] }, { sh := s32, dyn := false, frz := false, v := AV.agg [AV.sref Sh.one 2 m1 [] 0 k1, AV.sref Sh.one 3 m2 [] 0 k2, AV.fslc (Sh.agg [Sh.one, Sh.one]) [], .dat (.int .i64 (-1 : Int)), .dat (.bool false)] }, { sh := Sh.arr Sh.one 0, dyn := true, frz := false, v := .dat (.arr Sh.one o1) }, { sh := Sh.arr Sh.one 0, dyn := true, frz := false, v := .dat (.arr Sh.one o2) }]))) (.leaf (.inl ((IntKind.wrap IntKind.i64 (i + 1)), (m1 + 1), (m1 + 1), (m2 + 1), (m2 + 1), (o1 ++ [D.str { data := { toList := List.replicate 128 (UInt8.ofNat 0) } }]), (o2 ++ [D.str { data := { toList := List.replicate 128 (UInt8.ofNat 0) } }])))))
theorem nl_round (lp : Loops) (n : Int) (i : Int) (m1 k1 m2 k2 : Nat) (o1 o2 : List D) (K : Kt) : oneRound (envOf tab [] [] lp HN) Try.f10 0 (4) (mkF 26 [(0, .dat (.int .i64 n)), (2, .ptr s32 0 0 []), (3, .ptr s32 1 0 []), (4, .dat (.int .i64 i))]) ([zB, ⟨.agg [.one, .one, .one, .one, .one], false, false, .agg [.sref .one 2 m1 [] 0 k1, .sref .one 3 m2 [] 0 k2, .fslc (.agg [.one, .one]) [], .dat (.int .i64 (-1)), .dat (.bool false)]⟩, mkDyn .one o1, mkDyn .one o2]) K =
  (bif decide (i < n) then
   (bif Nat.beq m1 m1 && true && true && Nat.beq k1 k1 && true then
    (bif Nat.beq m1 m1 && true && true && Nat.beq k1 k1 && true then
     (bif Nat.beq (List.length o1) m1 && true && true && true && true && Nat.beq k1 m1 && true && true && decide ((m1 + 1) * 16 ≤ 35184372088832) then
      (bif Nat.beq m2 m2 && true && true && Nat.beq k2 k2 && true then
       (bif Nat.beq m2 m2 && true && true && Nat.beq k2 k2 && true then
        (bif Nat.beq (List.length o2) m2 && true && true && true && true && Nat.beq k2 m2 && true && true && decide ((m2 + 1) * 16 ≤ 35184372088832) then K (Exit.normal) (mkF 26 [(0, .dat (.int .i64 n)), (2, AV.ptr (s32) 0 0 []), (3, AV.ptr (s32) 1 0 []), (4, .dat (.int .i64 (IntKind.wrap IntKind.i64 (i + 1)))), (9, .dat (.int .i64 i)), (10, .dat (.int .i64 (IntKind.wrap IntKind.i64 (i + 1))))]) ([{ sh := s32, dyn := false, frz := false, v := AV.agg [AV.fslc Sh.one [], AV.fslc Sh.one [], AV.fslc (Sh.agg [Sh.one, Sh.one]) [], .dat (.int .i64 0), .dat (.bool false)] }, { sh := s32, dyn := false, frz := false, v := AV.agg [AV.sref Sh.one 2 (m1 + 1) [] 0 (m1 + 1), AV.sref Sh.one 3 (m2 + 1) [] 0 (m2 + 1), AV.fslc (Sh.agg [Sh.one, Sh.one]) [], .dat (.int .i64 (-1 : Int)), .dat (.bool false)] }, { sh := Sh.arr Sh.one 0, dyn := true, frz := false, v := .dat (.arr Sh.one (o1 ++ [D.str { data := { toList := List.replicate 128 (UInt8.ofNat 0) } }])) }, { sh := Sh.arr Sh.one 0, dyn := true, frz := false, v := .dat (.arr Sh.one (o2 ++ [D.str { data := { toList := List.replicate 128 (UInt8.ofNat 0) } }])) }, { sh := Sh.arr Sh.one 0, dyn := true, frz := false, v := .dat (.arr Sh.one (List.replicate 128 (D.int IntKind.u8 0))) }, { sh := Sh.arr Sh.one 0, dyn := true, frz := false, v := .dat (.arr Sh.one [D.str { data := { toList := List.replicate 128 (UInt8.ofNat 0) } }]) }, { sh := Sh.arr Sh.one 0, dyn := true, frz := false, v := .dat (.arr Sh.one (List.replicate 128 (D.int IntKind.u8 0))) }, { sh := Sh.arr Sh.one 0, dyn := true, frz := false, v := .dat (.arr Sh.one [D.str { data := { toList := List.replicate 128 (UInt8.ofNat 0) } }]) }]) else none) else none) else none) else none) else none) else none) else K (Exit.exit 0) (mkF 26 [(2, AV.ptr (s32) 0 0 []), (3, AV.ptr (s32) 1 0 [])]) ([{ sh := s32, dyn := false, frz := false, v := AV.agg [AV.fslc Sh.one [], AV.fslc Sh.one [], AV.fslc (Sh.agg [Sh.one, Sh.one]) [], .dat (.int .i64 0), .dat (.bool false)] }, { sh := s32, dyn := false, frz := false, v := AV.agg [AV.sref Sh.one 2 m1 [] 0 k1, AV.sref Sh.one 3 m2 [] 0 k2, AV.fslc (Sh.agg [Sh.one, Sh.one]) [], .dat (.int .i64 (-1 : Int)), .dat (.bool false)] }, { sh := Sh.arr Sh.one 0, dyn := true, frz := false, v := .dat (.arr Sh.one o1) }, { sh := Sh.arr Sh.one 0, dyn := true, frz := false, v := .dat (.arr Sh.one o2) }])) := by kernel_rfl
theorem nl_hr (lp : Loops) (n : Int) : ∀ (sA : (Int × Nat × Nat × Nat × Nat × List D × List D)) (K : Kt) (N : (Int × Nat × Nat × Nat × Nat × List D × List D) → Option Res), (∀ sB fr' σ', cleanF (liveAt Try.f10 0) 0 fr' = nl_fr n sB → trim (4) (nl_fr n sB) σ' = nl_st n sB → K .normal fr' σ' = N sB) →
    oneRound (envOf tab [] [] lp HN) Try.f10 0 (4) (nl_fr n sA) (nl_st n sA) K = (nl_step n sA).k (LK K N) := by
  intro sA K N hN
  obtain ⟨i, m1, k1, m2, k2, o1, o2⟩ := sA
  refine (nl_round lp n i m1 k1 m2 k2 o1 o2 K).trans ?_
  show _ = T.k ((
  .chk (!decide (i < n) || Nat.beq m1 m1 && true && true && Nat.beq k1 k1 && (Nat.beq (List.length o1) m1 && true && true && true && true && Nat.beq k1 m1 && true && true && decide ((m1 + 1) * 16 ≤ 35184372088832) && (Nat.beq m2 m2 && true && true && Nat.beq k2 k2 && (Nat.beq (List.length o2) m2 && true && true && true && true && Nat.beq k2 m2 && true && true && decide ((m2 + 1) * 16 ≤ 35184372088832))))) (
   .br (!decide (i < n)) (.leaf (.inr ((some 0), mkF 26 [(2, AV.ptr (s32) 0 0 []), (3, AV.ptr (s32) 1 0 [])], [{ sh := s32, dyn := false, frz := false, v := AV.agg [AV.fslc Sh.one [], AV.fslc Sh.one [], AV.fslc (Sh.agg [Sh.one, Sh.one]) [], .dat (.int .i64 0), .dat (.bool false)] }, { sh := s32, dyn := false, frz := false, v := AV.agg [AV.sref Sh.one 2 m1 [] 0 k1, AV.sref Sh.one 3 m2 [] 0 k2, AV.fslc (Sh.agg [Sh.one, Sh.one]) [], .dat (.int .i64 (-1 : Int)), .dat (.bool false)] }, { sh := Sh.arr Sh.one 0, dyn := true, frz := false, v := .dat (.arr Sh.one o1) }, { sh := Sh.arr Sh.one 0, dyn := true, frz := false, v := .dat (.arr Sh.one o2) }]))) (.leaf (.inl ((IntKind.wrap IntKind.i64 (i + 1)), (m1 + 1), (m1 + 1), (m2 + 1), (m2 + 1), (o1 ++ [D.str { data := { toList := List.replicate 128 (UInt8.ofNat 0) } }]), (o2 ++ [D.str { data := { toList := List.replicate 128 (UInt8.ofNat 0) } }])))))) : T ((Int × Nat × Nat × Nat × Nat × List D × List D) ⊕ LOut)) (LK K N)
  generalize (Nat.beq (List.length o2) m2 && true && true && true && true && Nat.beq k2 m2 && true && true && decide ((m2 + 1) * 16 ≤ 35184372088832)) = z0
  generalize (Nat.beq (List.length o1) m1 && true && true && true && true && Nat.beq k1 m1 && true && true && decide ((m1 + 1) * 16 ≤ 35184372088832)) = z1
  generalize (Nat.beq m1 m1 && true && true && Nat.beq k1 k1) = z2
  generalize (Nat.beq m2 m2 && true && true && Nat.beq k2 k2) = z3
  generalize (decide (i < n)) = z4
  cases z4 with
  | true =>
   cases z2 with
   | true =>
    cases z1 with
    | true =>
     cases z3 with
     | true =>
      cases z0 with
      | true =>
       exact hN _ _ _ (by kernel_rfl) (by kernel_rfl)
      | false =>
       rfl
     | false =>
      rfl
    | false =>
     rfl
   | false =>
    rfl
  | false =>
   rfl
theorem nl_enter (n : Int) (i : Int) (m1 k1 m2 k2 : Nat) (o1 o2 : List D) (fr : Frame') (hl : Nat.beq fr.length 26 = true) (g0 : fr.getD 0 .undef = .dat (.int .i64 n)) (g2 : fr.getD 2 .undef = AV.ptr (s32) 0 0 []) (g3 : fr.getD 3 .undef = AV.ptr (s32) 1 0 []) (g4 : fr.getD 4 .undef = .dat (.int .i64 i)) : cleanF (liveAt Try.f10 0) 0 fr = nl_fr n (i, m1, k1, m2, k2, o1, o2) := by
  have e : liveAt Try.f10 0 = [0, 4, 3, 2] := by kernel_rfl
  rw [clean_mk (Nat.eq_of_beq_eq_true hl), e]
  show mkF 26 [(0, fr.getD 0 .undef), (4, fr.getD 4 .undef), (3, fr.getD 3 .undef), (2, fr.getD 2 .undef)] = _
  rw [g0, g4, g3, g2]
  kernel_rfl
def zT : D := .str { data := { toList := List.replicate 128 (UInt8.ofNat 0) } }
abbrev nlB (k : Nat) : Store := [zB, ⟨.agg [.one, .one, .one, .one, .one], false, false, .agg [.sref .one 2 k [] 0 k, .sref .one 3 k [] 0 k, .fslc (.agg [.one, .one]) [], .dat (.int .i64 (-1)), .dat (.bool false)]⟩, mkDyn .one (List.replicate k zT), mkDyn .one (List.replicate k zT)]
theorem rep_succ (k : Nat) (d : D) : List.replicate k d ++ [d] = List.replicate (k + 1) d := by rw [List.replicate_succ']
theorem nl_closed (n : Int) (hc : (decide (0 ≤ n) && decide (n ≤ 1099511627776)) = true) :
    ∃ z, (iterT (nl_step n) z (0, 0, 0, 0, 0, [], [])).run = T.run (.leaf (some 0, mkF 26 [(2, .ptr s32 0 0 []), (3, .ptr s32 1 0 [])], nlB n.toNat)) := by
  simp only [Bool.and_eq_true, decide_eq_true_eq] at hc
  obtain ⟨k, rfl⟩ := Int.eq_ofNat_of_zero_le hc.1
  refine iter_range (n := k) (fun i => (i, i, i, i, List.replicate i zT, List.replicate i zT)) (fun i hi => ?_) ?_
  · unfold nl_step
    simp (disch := omega) only [decide_eq_true, wrap_succ, List.length_replicate, Nat.beq_refl, Bool.not_true, Bool.false_or, Bool.true_and, T.run_br, T.run_chk, T.run_leaf, cond_true, cond_false]
    rw [← rep_succ]; rfl
  · unfold nl_step
    simp (disch := omega) only [decide_eq_false]
    rfl
def L_nl : Frame' → Store → T (Exit × Frame' × Store) := fun fr σ => match fr.getD 0 .undef, fr.getD 2 .undef, fr.getD 3 .undef, fr.getD 4 .undef, σ with
  | AV.dat (D.int IntKind.i64 n), AV.ptr (Sh.agg [Sh.one, Sh.one, Sh.one, Sh.one, Sh.one]) 0 0 [], AV.ptr (Sh.agg [Sh.one, Sh.one, Sh.one, Sh.one, Sh.one]) 1 0 [], AV.dat (D.int IntKind.i64 0), [{ sh := Sh.agg [Sh.one, Sh.one, Sh.one, Sh.one, Sh.one], dyn := false, frz := false, v := AV.agg [AV.fslc Sh.one [], AV.fslc Sh.one [], AV.fslc (Sh.agg [Sh.one, Sh.one]) [], AV.dat (D.int IntKind.i64 0), AV.dat (D.bool false)] }, { sh := Sh.agg [Sh.one, Sh.one, Sh.one, Sh.one, Sh.one], dyn := false, frz := false, v := AV.agg [AV.sref Sh.one 2 0 [] 0 0, AV.sref Sh.one 3 0 [] 0 0, AV.fslc (Sh.agg [Sh.one, Sh.one]) [], AV.dat (D.int IntKind.i64 (-1)), AV.dat (D.bool false)] }, { sh := Sh.arr Sh.one 0, dyn := true, frz := false, v := AV.dat (D.arr Sh.one []) }, { sh := Sh.arr Sh.one 0, dyn := true, frz := false, v := AV.dat (D.arr Sh.one []) }] => .chk (Nat.beq fr.length 26 && (decide (0 ≤ n) && decide (n ≤ 1099511627776))) (T.bind (.leaf (some 0, mkF 26 [(2, .ptr s32 0 0 []), (3, .ptr s32 1 0 [])], nlB n.toNat)) fun o => .leaf (outEx o.1, o.2.1, o.2.2))
  | _, _, _, _, _ => .fail
theorem nl_sem (lp : Loops) : ∀ fr σ p, (L_nl fr σ).run = some p → ∀ (K : Kt) r, K p.1 p.2.1 p.2.2 = some r → ∃ n, loopRun (envOf tab [] [] lp HN) Try.f10 0 σ.length n (cleanF (liveAt Try.f10 0) 0 fr) σ K = some r := by
  intro fr σ p h K r hK
  unfold L_nl at h
  split at h
  · rename_i n g0 g2 g3 g4
    obtain ⟨hc, h'⟩ := T.chk_some h
    rw [Bool.and_eq_true] at hc
    obtain ⟨hl, hc⟩ := hc
    obtain ⟨o, ho, h'⟩ := T.bind_some h'
    have hp := T.leaf_some h'
    subst hp
    obtain ⟨nF, hn⟩ : ∃ nF, (iterT (nl_step n) nF ((0, 0, 0, 0, 0, [], []))).run = T.run (.leaf (some 0, mkF 26 [(2, .ptr s32 0 0 []), (3, .ptr s32 1 0 [])], nlB n.toNat)) := nl_closed n hc
    rw [ho] at hn
    refine ⟨nF, ?_⟩
    have he : cleanF (liveAt Try.f10 0) 0 fr = nl_fr n ((0, 0, 0, 0, 0, [], [])) := nl_enter n _ _ _ _ _ _ _ fr hl g0 g2 g3 g4
    refine (iter_ok (base := 4) (nl_hr lp n) K nF ((0, 0, 0, 0, 0, [], [])) _ _ (by rw [clean_clean]; exact he) (by kernel_rfl)).trans ?_
    rw [T.k_run hn]
    exact hK
  · simp [T.run_fail] at h
theorem nl_loopOk {k : Nat} (lp : Loops) (hk : Loops.get lp 3 = some L_nl) : LoopOkN Try.prog k (envOf tab [] [] lp HN) (loopAt Try.f10 0).1 (loopAt Try.f10 0).2 := loop_okN (L := L_nl) (by kernel_rfl) hk (nl_sem lp)
def rnew_v0 (n : Int) : List D := seg (List.replicate (Int.toNat n) (D.str { data := { toList := List.replicate 128 (UInt8.ofNat 0) } })) 0 (Int.toNat n)
def rnew_pre (n : Int) : Bool := decide (0 ≤ n) && decide (n ≤ 1099511627776) && Nat.beq (List.length (List.replicate (Int.toNat n) (D.str { data := { toList := List.replicate 128 (UInt8.ofNat 0) } }))) (Int.toNat n)
def C_rnew : FunT := fun args σ => match args, σ with
  | [AV.dat (D.int IntKind.i64 n)], [] => .chk ((rnew_pre n)) (.leaf ([AV.dat (D.agg [D.slc Sh.one (rnew_v0 n), D.slc Sh.one (rnew_v0 n), D.slc (Sh.agg [Sh.one, Sh.one]) [], D.int IntKind.i64 (-1 : Int), D.bool false])], []))
  | _, _ => .fail
theorem rnew_raw0 (n : Int) : runF (envOf tab [] [] [(3, L_nl)] HN) true Try.f10 [.dat (.int .i64 n)] [] =
  (bif decide (0 ≤ n) && decide (n ≤ 1099511627776) then
   (bif Nat.beq (List.length (List.replicate (Int.toNat n) (D.str { data := { toList := List.replicate 128 (UInt8.ofNat 0) } }))) (Int.toNat n) then
    (bif Nat.beq (List.length (List.replicate (Int.toNat n) (D.str { data := { toList := List.replicate 128 (UInt8.ofNat 0) } }))) (Int.toNat n) then some ([.dat (.agg [D.slc Sh.one (seg (List.replicate (Int.toNat n) (D.str { data := { toList := List.replicate 128 (UInt8.ofNat 0) } })) 0 (Int.toNat n)), D.slc Sh.one (seg (List.replicate (Int.toNat n) (D.str { data := { toList := List.replicate 128 (UInt8.ofNat 0) } })) 0 (Int.toNat n)), D.slc (Sh.agg [Sh.one, Sh.one]) [], D.int .i64 (-1 : Int), D.bool false])], []) else none) else none) else none) := by kernel_rfl
theorem rnew_case0 (n : Int) : runF (envOf tab [] [] [(3, L_nl)] HN) true Try.f10 [.dat (.int .i64 n)] [] = FunT.run C_rnew [.dat (.int .i64 n)] [] := (rnew_raw0 n).trans (by
  show _ = (cond (decide (0 ≤ n) && decide (n ≤ 1099511627776) && Nat.beq (List.length (List.replicate (Int.toNat n) (D.str { data := { toList := List.replicate 128 (UInt8.ofNat 0) } }))) (Int.toNat n)) (some (([.dat (.agg [D.slc Sh.one (seg (List.replicate (Int.toNat n) (D.str { data := { toList := List.replicate 128 (UInt8.ofNat 0) } })) 0 (Int.toNat n)), D.slc Sh.one (seg (List.replicate (Int.toNat n) (D.str { data := { toList := List.replicate 128 (UInt8.ofNat 0) } })) 0 (Int.toNat n)), D.slc (Sh.agg [Sh.one, Sh.one]) [], D.int .i64 (-1 : Int), D.bool false])], []) : Res)) none)
  generalize (decide (0 ≤ n) && decide (n ≤ 1099511627776)) = z0
  generalize (Nat.beq (List.length (List.replicate (Int.toNat n) (D.str { data := { toList := List.replicate 128 (UInt8.ofNat 0) } }))) (Int.toNat n)) = z1
  cases z0 with
  | true =>
   cases z1 with
   | true =>
    rfl
   | false =>
    rfl
  | false =>
   rfl
  )
theorem crnew_ok : FunOk Try.prog 10 (FunT.run C_rnew) := by
  refine fun_ok (E := envOf tab [] [] [(3, L_nl)] HN) (fz := true) (fn := Try.f10) (envOf_ok progOk (.nil _)) (by kernel_rfl) (by kernel_rfl) (loops_one (by kernel_rfl) (nl_loopOk _ rfl)) ?_
  intro args σ r h
  unfold C_rnew at h
  split at h
  · exact (rnew_case0 _).trans h
  · simp [T.run_fail] at h
end Go.Proofs.Ythhipekbkodjoaa
