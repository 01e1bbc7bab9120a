/- Seat 07: the document's disk. -/
import Derived.Test.YthhipekbkodjoaaE
namespace Go.Proofs.Ythhipekbkodjoaa
open Go.AX
set_option maxRecDepth 100000
def wi_fr (l : List D) (n : Int) (s : ByteArray) : (Int × Nat × Nat × List D) → Frame' := fun ⟨i, m, k, _⟩ => mkF 30 [(0, .dat (.slc .one l)), (1, .dat (.int .i64 n)), (2, .dat (.str s)), (7, .sref .one 0 m [] 0 k), (8, .dat (.int .i64 i))]
def wi_st (_l : List D) (_n : Int) (_s : ByteArray) : (Int × Nat × Nat × List D) → Store := fun ⟨_, _, _, out⟩ => [mkDyn .one out]
def wi_step (l : List D) (n : Int) (s : ByteArray) : (Int × Nat × Nat × List D) → T ((Int × Nat × Nat × List D) ⊕ LOut) := fun ⟨i, m, k, out⟩ =>
  .chk (!decide (i < (↑(List.length l) : Int)) || bif i == n then Nat.beq (List.length out) m && true && true && true && true && Nat.beq k m && true && true && decide ((m + 1) * 16 ≤ 35184372088832) else decide (0 ≤ i) && (decide (Int.toNat i < List.length l) && (okE Ek.str (nthD l (Int.toNat i)) && (Nat.beq (List.length out) m && true && true && true && true && Nat.beq k m && true && true && decide ((m + 1) * 16 ≤ 35184372088832))))) (
   .br (!decide (i < (↑(List.length l) : Int))) (.leaf (.inr ((some 0), mkF 30 [(7, AV.sref Sh.one 0 m [] 0 k)], [{ sh := Sh.arr Sh.one 0, dyn := true, frz := false, v := .dat (.arr Sh.one out) }]))) (.leaf (.inl ((IntKind.wrap IntKind.i64 (i + 1)), (m + 1), (m + 1), (bif i == n then out ++ [D.str s] else out ++ [D.str (D.getS (nthD l (Int.toNat i)))])))))
theorem wi_round (lp : Loops) (l : List D) (n : Int) (s : ByteArray) (i : Int) (m k : Nat) (out : List D) (K : Kt) : oneRound (envOf tab [] [] lp [(2, 0, [.own 7])]) Try.f31 0 (1) (mkF 30 [(0, .dat (.slc .one l)), (1, .dat (.int .i64 n)), (2, .dat (.str s)), (7, .sref .one 0 m [] 0 k), (8, .dat (.int .i64 i))]) ([mkDyn .one out]) K =
  (bif decide (i < (↑(List.length l) : Int)) then
   (bif i == n then
    (bif Nat.beq (List.length out) m && true && true && true && true && Nat.beq k m && true && true && decide ((m + 1) * 16 ≤ 35184372088832) then K (Exit.normal) (mkF 30 [(0, .dat (.slc Sh.one l)), (1, .dat (.int .i64 n)), (2, .dat (.str s)), (7, AV.sref Sh.one 0 (m + 1) [] 0 (m + 1)), (8, .dat (.int .i64 (IntKind.wrap IntKind.i64 (i + 1)))), (13, .dat (.int .i64 i)), (14, .dat (.int .i64 (IntKind.wrap IntKind.i64 (i + 1))))]) ([{ sh := Sh.arr Sh.one 0, dyn := true, frz := false, v := .dat (.arr Sh.one (out ++ [D.str s])) }, { sh := Sh.arr Sh.one 0, dyn := true, frz := false, v := .dat (.arr Sh.one [D.str s]) }]) else none) else
    (bif decide (0 ≤ i) then
     (bif decide (Int.toNat i < List.length l) then
      (bif okE Ek.str (nthD l (Int.toNat i)) then
       (bif Nat.beq (List.length out) m && true && true && true && true && Nat.beq k m && true && true && decide ((m + 1) * 16 ≤ 35184372088832) then K (Exit.normal) (mkF 30 [(0, .dat (.slc Sh.one l)), (1, .dat (.int .i64 n)), (2, .dat (.str s)), (7, AV.sref Sh.one 0 (m + 1) [] 0 (m + 1)), (8, .dat (.int .i64 (IntKind.wrap IntKind.i64 (i + 1)))), (13, .dat (.int .i64 i)), (14, .dat (.int .i64 (IntKind.wrap IntKind.i64 (i + 1))))]) ([{ sh := Sh.arr Sh.one 0, dyn := true, frz := false, v := .dat (.arr Sh.one (out ++ [D.str (D.getS (nthD l (Int.toNat i)))])) }, { sh := Sh.arr Sh.one 0, dyn := true, frz := false, v := .dat (.arr Sh.one [D.str (D.getS (nthD l (Int.toNat i)))]) }]) else none) else none) else none) else none)) else K (Exit.exit 0) (mkF 30 [(7, AV.sref Sh.one 0 m [] 0 k)]) ([{ sh := Sh.arr Sh.one 0, dyn := true, frz := false, v := .dat (.arr Sh.one out) }])) := by kernel_rfl
theorem wi_hr (lp : Loops) (l : List D) (n : Int) (s : ByteArray) : ∀ (sA : (Int × Nat × Nat × List D)) (K : Kt) (N : (Int × Nat × Nat × List D) → Option Res), (∀ sB fr' σ', cleanF (liveAt Try.f31 0) 0 fr' = wi_fr l n s sB → trim (1) (wi_fr l n s sB) σ' = wi_st l n s sB → K .normal fr' σ' = N sB) →
    oneRound (envOf tab [] [] lp [(2, 0, [.own 7])]) Try.f31 0 (1) (wi_fr l n s sA) (wi_st l n s sA) K = (wi_step l n s sA).k (LK K N) := by
  intro sA K N hN
  obtain ⟨i, m, k, out⟩ := sA
  refine (wi_round lp l n s i m k out K).trans ?_
  show _ = T.k ((
  .chk (!decide (i < (↑(List.length l) : Int)) || bif i == n then Nat.beq (List.length out) m && true && true && true && true && Nat.beq k m && true && true && decide ((m + 1) * 16 ≤ 35184372088832) else decide (0 ≤ i) && (decide (Int.toNat i < List.length l) && (okE Ek.str (nthD l (Int.toNat i)) && (Nat.beq (List.length out) m && true && true && true && true && Nat.beq k m && true && true && decide ((m + 1) * 16 ≤ 35184372088832))))) (
   .br (!decide (i < (↑(List.length l) : Int))) (.leaf (.inr ((some 0), mkF 30 [(7, AV.sref Sh.one 0 m [] 0 k)], [{ sh := Sh.arr Sh.one 0, dyn := true, frz := false, v := .dat (.arr Sh.one out) }]))) (.leaf (.inl ((IntKind.wrap IntKind.i64 (i + 1)), (m + 1), (m + 1), (bif i == n then out ++ [D.str s] else out ++ [D.str (D.getS (nthD l (Int.toNat i)))])))))) : T ((Int × Nat × Nat × List D) ⊕ LOut)) (LK K N)
  generalize (Nat.beq (List.length out) m && true && true && true && true && Nat.beq k m && true && true && decide ((m + 1) * 16 ≤ 35184372088832)) = z0
  generalize (decide (i < (↑(List.length l) : Int))) = z1
  generalize (decide (0 ≤ i)) = z2
  generalize (decide (Int.toNat i < List.length l)) = z3
  generalize (i == n) = z4
  generalize (okE Ek.str (nthD l (Int.toNat i))) = z5
  cases z1 with
  | true =>
   cases z4 with
   | true =>
    cases z0 with
    | true =>
     exact hN _ _ _ (by kernel_rfl) (by kernel_rfl)
    | false =>
     rfl
   | false =>
    cases z2 with
    | true =>
     cases z3 with
     | true =>
      cases z5 with
      | true =>
       cases z0 with
       | true =>
        exact hN _ _ _ (by kernel_rfl) (by kernel_rfl)
       | false =>
        rfl
      | false =>
       rfl
     | false =>
      rfl
    | false =>
     rfl
  | false =>
   rfl
theorem wi_enter (l : List D) (n : Int) (s : ByteArray) (i : Int) (m k : Nat) (out : List D) (fr : Frame') (hl : Nat.beq fr.length 30 = true) (g0 : fr.getD 0 .undef = .dat (.slc Sh.one l)) (g1 : fr.getD 1 .undef = .dat (.int .i64 n)) (g2 : fr.getD 2 .undef = .dat (.str s)) (g7 : fr.getD 7 .undef = AV.sref Sh.one 0 m [] 0 k) (g8 : fr.getD 8 .undef = .dat (.int .i64 i)) : cleanF (liveAt Try.f31 0) 0 fr = wi_fr l n s (i, m, k, out) := by
  have e : liveAt Try.f31 0 = [1, 2, 0, 8, 7] := by kernel_rfl
  rw [clean_mk (Nat.eq_of_beq_eq_true hl), e]
  show mkF 30 [(1, fr.getD 1 .undef), (2, fr.getD 2 .undef), (0, fr.getD 0 .undef), (8, fr.getD 8 .undef), (7, fr.getD 7 .undef)] = _
  rw [g1, g2, g0, g8, g7]
  kernel_rfl
def wiTo (l : List D) (n : Int) (s : ByteArray) : Nat → List D
  | 0 => []
  | i + 1 => wiTo l n s i ++ [bif (i : Int) == n then .str s else .str (D.getS (nthD l i))]
theorem wiTo_length (l : List D) (n : Int) (s : ByteArray) : ∀ i, (wiTo l n s i).length = i
  | 0 => rfl
  | i + 1 => by rw [wiTo, List.length_append, wiTo_length l n s i]; rfl
abbrev okStrs (l : List D) : Bool := l.all (okE .str) && decide (l.length ≤ 1099511627776)
theorem wi_closed (l : List D) (n : Int) (s : ByteArray) (hc : okStrs l = true) :
    ∃ z, (iterT (wi_step l n s) z (0, 0, 0, [])).run = T.run (.leaf (some 0, mkF 30 [(7, .sref .one 0 l.length [] 0 l.length)], [mkDyn .one (wiTo l n s l.length)])) := by
  simp only [okStrs, Bool.and_eq_true, decide_eq_true_eq] at hc
  obtain ⟨h1, h2⟩ := hc
  refine iter_range (n := l.length) (fun i => (i, i, wiTo l n s i)) (fun i hi => ?_) ?_
  · unfold wi_step
    have hb : (bif (i : Int) == n then wiTo l n s i ++ [D.str s] else wiTo l n s i ++ [D.str (D.getS (nthD l i))]) = wiTo l n s (i + 1) := by
      rw [wiTo]; cases (i : Int) == n <;> rfl
    simp only [decide_eq_true (show (i : Int) < (l.length : Int) by omega), decide_eq_true (show (0 : Int) ≤ (i : Int) by omega), Int.toNat_natCast, decide_eq_true hi, allE_nth h1 hi, wiTo_length, hb, Nat.beq_refl, decide_eq_true (show (i + 1) * 16 ≤ 35184372088832 by omega), wrap_succ (show i < 2 ^ 62 by omega), Bool.not_true, Bool.false_or, Bool.true_and, T.run_br, T.run_chk, T.run_leaf, cond_false]
    cases (i : Int) == n <;> rfl
  · unfold wi_step
    simp only [decide_eq_false (show ¬ (l.length : Int) < (l.length : Int) by omega)]
    rfl
def L_wi : Frame' → Store → T (Exit × Frame' × Store) := fun fr σ => match fr.getD 0 .undef, fr.getD 1 .undef, fr.getD 2 .undef, fr.getD 7 .undef, fr.getD 8 .undef, σ with
  | AV.dat (D.slc Sh.one l), AV.dat (D.int IntKind.i64 n), AV.dat (D.str s), AV.sref Sh.one 0 0 [] 0 0, AV.dat (D.int IntKind.i64 0), [{ sh := Sh.arr Sh.one 0, dyn := true, frz := false, v := AV.dat (D.arr Sh.one []) }] => .chk (Nat.beq fr.length 30 && (okStrs l)) (T.bind (.leaf (some 0, mkF 30 [(7, .sref .one 0 l.length [] 0 l.length)], [mkDyn .one (wiTo l n s l.length)])) fun o => .leaf (outEx o.1, o.2.1, o.2.2))
  | _, _, _, _, _, _ => .fail
theorem wi_sem (lp : Loops) : ∀ fr σ p, (L_wi fr σ).run = some p → ∀ (K : Kt) r, K p.1 p.2.1 p.2.2 = some r → ∃ n, loopRun (envOf tab [] [] lp [(2, 0, [.own 7])]) Try.f31 0 σ.length n (cleanF (liveAt Try.f31 0) 0 fr) σ K = some r := by
  intro fr σ p h K r hK
  unfold L_wi at h
  split at h
  · rename_i l n s g0 g1 g2 g7 g8
    obtain ⟨hc, h'⟩ := T.chk_some h
    rw [Bool.and_eq_true] at hc
    obtain ⟨hl, hc⟩ := hc
    obtain ⟨o, ho, h'⟩ := T.bind_some h'
    have hp := T.leaf_some h'
    subst hp
    obtain ⟨nF, hn⟩ : ∃ nF, (iterT (wi_step l n s) nF ((0, 0, 0, []))).run = T.run (.leaf (some 0, mkF 30 [(7, .sref .one 0 l.length [] 0 l.length)], [mkDyn .one (wiTo l n s l.length)])) := wi_closed l n s hc
    rw [ho] at hn
    refine ⟨nF, ?_⟩
    have he : cleanF (liveAt Try.f31 0) 0 fr = wi_fr l n s ((0, 0, 0, [])) := wi_enter l n s _ _ _ _ fr hl g0 g1 g2 g7 g8
    refine (iter_ok (base := 1) (wi_hr lp l n s) K nF ((0, 0, 0, [])) _ _ (by rw [clean_clean]; exact he) (by kernel_rfl)).trans ?_
    rw [T.k_run hn]
    exact hK
  · simp [T.run_fail] at h
theorem wi_loopOk {k : Nat} (lp : Loops) (hk : Loops.get lp 3 = some L_wi) : LoopOkN Try.prog k (envOf tab [] [] lp [(2, 0, [.own 7])]) (loopAt Try.f31 0).1 (loopAt Try.f31 0).2 := loop_okN (L := L_wi) (by kernel_rfl) hk (wi_sem lp)
def wth_pre (l : List D) (n : Int) (s : ByteArray) : Bool := okStrs l && Nat.beq (List.length (wiTo l n s (List.length l))) (List.length l)
def C_wth : FunT := fun args σ => match args, σ with
  | [AV.dat (D.slc Sh.one l), AV.dat (D.int IntKind.i64 n), AV.dat (D.str s)], [] => .chk ((wth_pre l n s)) (.leaf ([AV.dat (D.slc Sh.one (seg (wiTo l n s (List.length l)) 0 (List.length l)))], []))
  | _, _ => .fail
theorem wth_raw0 (l : List D) (n : Int) (s : ByteArray) : runF (envOf tab [] [] [(3, L_wi)] [(2, 0, [.own 7])]) true Try.f31 [.dat (.slc .one l), .dat (.int .i64 n), .dat (.str s)] [] =
  (bif okStrs l then
   (bif Nat.beq (List.length (wiTo l n s (List.length l))) (List.length l) then some ([.dat (.slc Sh.one (seg (wiTo l n s (List.length l)) 0 (List.length l)))], []) else none) else none) := by kernel_rfl
theorem wth_case0 (l : List D) (n : Int) (s : ByteArray) : runF (envOf tab [] [] [(3, L_wi)] [(2, 0, [.own 7])]) true Try.f31 [.dat (.slc .one l), .dat (.int .i64 n), .dat (.str s)] [] = FunT.run C_wth [.dat (.slc .one l), .dat (.int .i64 n), .dat (.str s)] [] := (wth_raw0 l n s).trans (by
  show _ = (cond (okStrs l && Nat.beq (List.length (wiTo l n s (List.length l))) (List.length l)) (some (([.dat (.slc Sh.one (seg (wiTo l n s (List.length l)) 0 (List.length l)))], []) : Res)) none)
  generalize (Nat.beq (List.length (wiTo l n s (List.length l))) (List.length l)) = z0
  generalize (okStrs l) = z1
  cases z1 with
  | true =>
   cases z0 with
   | true =>
    rfl
   | false =>
    rfl
  | false =>
   rfl
  )
theorem cwth_ok : FunOk Try.prog 31 (FunT.run C_wth) := by
  refine fun_ok (E := envOf tab [] [] [(3, L_wi)] [(2, 0, [.own 7])]) (fz := true) (fn := Try.f31) (envOf_ok progOk (.nil _)) (by kernel_rfl) (by kernel_rfl) (loops_one (by kernel_rfl) (wi_loopOk _ rfl)) ?_
  intro args σ r h
  unfold C_wth at h
  split at h
  · exact (wth_case0 _ _ _).trans h
  · simp [T.run_fail] at h
def rburns_v0 (f : Int) : Int := bif decide (0 ≤ f) then IntKind.wrap IntKind.i64 (f - 1) else f
def rburns_v1 (f : Int) (u : Bool) : Bool := f == 0 || u
def C_rburns : FunT := fun args σ => match args, σ with
  | [AV.dat (D.agg [D.slc Sh.one nw, D.slc Sh.one sa, D.slc (Sh.agg [Sh.one, Sh.one]) wa, D.int IntKind.i64 f, D.bool u])], [] => .leaf ([AV.dat (D.agg [D.slc Sh.one nw, D.slc Sh.one sa, D.slc (Sh.agg [Sh.one, Sh.one]) wa, D.int IntKind.i64 (rburns_v0 f), D.bool (rburns_v1 f u)])], [])
  | _, _ => .fail
theorem rburns_raw0 (nw sa wa : List D) (f : Int) (u : Bool) : runF (envOf tab [] [] [] []) true Try.f32 [.dat (.agg [.slc .one nw, .slc .one sa, .slc (.agg [.one, .one]) wa, .int .i64 f, .bool u])] [] =
  (bif f == 0 then
   (bif decide (f ≥ 0) then some ([.dat (.agg [D.slc Sh.one nw, D.slc Sh.one sa, D.slc (Sh.agg [Sh.one, Sh.one]) wa, D.int .i64 (IntKind.wrap IntKind.i64 (f - 1)), D.bool true])], []) else some ([.dat (.agg [D.slc Sh.one nw, D.slc Sh.one sa, D.slc (Sh.agg [Sh.one, Sh.one]) wa, D.int .i64 f, D.bool true])], [])) else
   (bif decide (f ≥ 0) then some ([.dat (.agg [D.slc Sh.one nw, D.slc Sh.one sa, D.slc (Sh.agg [Sh.one, Sh.one]) wa, D.int .i64 (IntKind.wrap IntKind.i64 (f - 1)), D.bool u])], []) else some ([.dat (.agg [D.slc Sh.one nw, D.slc Sh.one sa, D.slc (Sh.agg [Sh.one, Sh.one]) wa, D.int .i64 f, D.bool u])], []))) := by kernel_rfl
theorem rburns_case0 (nw sa wa : List D) (f : Int) (u : Bool) : runF (envOf tab [] [] [] []) true Try.f32 [.dat (.agg [.slc .one nw, .slc .one sa, .slc (.agg [.one, .one]) wa, .int .i64 f, .bool u])] [] = FunT.run C_rburns [.dat (.agg [.slc .one nw, .slc .one sa, .slc (.agg [.one, .one]) wa, .int .i64 f, .bool u])] [] := (rburns_raw0 nw sa wa f u).trans (by
  show _ = (some (([.dat (.agg [D.slc Sh.one nw, D.slc Sh.one sa, D.slc (Sh.agg [Sh.one, Sh.one]) wa, D.int .i64 (bif decide (0 ≤ f) then IntKind.wrap IntKind.i64 (f - 1) else f), D.bool (f == 0 || u)])], []) : Res))
  generalize (decide (0 ≤ f)) = z0
  generalize (f == 0) = z1
  cases z1 with
  | true =>
   cases z0 with
   | true =>
    rfl
   | false =>
    rfl
  | false =>
   cases z0 with
   | true =>
    rfl
   | false =>
    rfl
  )
theorem crburns_ok : FunOk Try.prog 32 (FunT.run C_rburns) := by
  refine fun_ok (E := envOf tab [] [] [] []) (fz := true) (fn := Try.f32) (envOf_ok progOk (.nil _)) (by kernel_rfl) (by kernel_rfl) (loops_none (by kernel_rfl)) ?_
  intro args σ r h
  unfold C_rburns at h
  split at h
  · exact (rburns_case0 _ _ _ _ _).trans h
  · simp [T.run_fail] at h
abbrev SpX : Specs := [(31, C_wth), (32, C_rburns)]
theorem SpX_ok : SpecsOk Try.prog SpX := .cons cwth_ok (.cons crburns_ok (.nil _))
def rwrite_v0 (nw : List D) (b : List D) (n : Int) (u : Bool) : List D := bif u then nw else bif decide (n < 0) then nw else bif decide ((↑(List.length nw) : Int) ≤ n) then nw else bif (↑(List.length b) : Int) != 128 then nw else seg (wiTo nw n { data := { toList := byteVs b } } (List.length nw)) 0 (List.length nw)
def rwrite_v1 (nw : List D) (wa : List D) (b : List D) (n : Int) (u : Bool) : List D := bif u then wa else bif decide (n < 0) then wa else bif decide ((↑(List.length nw) : Int) ≤ n) then wa else bif (↑(List.length b) : Int) != 128 then wa else bif List.isEmpty wa then [D.agg [D.int .i64 n, D.str { data := { toList := byteVs b } }]] else seg (wa ++ [D.agg [D.int .i64 n, D.str { data := { toList := byteVs b } }]]) 0 (0 + List.length wa + 1)
def rwrite_v2 (nw : List D) (b : List D) (f : Int) (n : Int) (u : Bool) : Int := bif u then f else bif decide (n < 0) then f else bif decide ((↑(List.length nw) : Int) ≤ n) then f else bif (↑(List.length b) : Int) != 128 then f else rburns_v0 f
def rwrite_v3 (nw : List D) (b : List D) (f : Int) (n : Int) (u : Bool) : Bool := bif u then u else bif decide (n < 0) then u else bif decide ((↑(List.length nw) : Int) ≤ n) then u else bif (↑(List.length b) : Int) != 128 then u else rburns_v1 f u
def rwrite_v4 (nw : List D) (b : List D) (f : Int) (n : Int) (u : Bool) : Int := bif u then 15 else bif decide (n < 0) then 16 else bif decide ((↑(List.length nw) : Int) ≤ n) then 16 else bif (↑(List.length b) : Int) != 128 then 1 else bif rburns_v1 f u then 15 else 0
def rwrite_pre (nw : List D) (wa : List D) (b : List D) (n : Int) (u : Bool) : Bool := u || (decide (n < 0) || (decide ((↑(List.length nw) : Int) ≤ n) || ((↑(List.length b) : Int) != 128 || isBytes b && (wth_pre nw n { data := { toList := byteVs b } } && (fits (Sh.agg [Sh.one, Sh.one]) wa && (decide ((0 + List.length wa) * 24 ≤ 35184372088832) && (List.isEmpty wa || Nat.beq (List.length wa) (0 + List.length wa) && true && true && true && true && Nat.beq (0 + List.length wa) (0 + List.length wa) && true && true && decide ((0 + List.length wa + 1) * 24 ≤ 35184372088832) && Nat.beq (List.length (wa ++ [D.agg [D.int .i64 n, D.str { data := { toList := byteVs b } }]])) (0 + List.length wa + 1))))))))
def C_rwrite : FunT := fun args σ => match args, σ with
  | [AV.dat (D.agg [D.slc Sh.one nw, D.slc Sh.one sa, D.slc (Sh.agg [Sh.one, Sh.one]) wa, D.int IntKind.i64 f, D.bool u]), AV.dat (D.int IntKind.i64 n), AV.dat (D.slc Sh.one b)], [] => .chk ((rwrite_pre nw wa b n u)) (.leaf ([AV.dat (D.agg [D.slc Sh.one (rwrite_v0 nw b n u), D.slc Sh.one sa, D.slc (Sh.agg [Sh.one, Sh.one]) (rwrite_v1 nw wa b n u), D.int IntKind.i64 (rwrite_v2 nw b f n u), D.bool (rwrite_v3 nw b f n u)]), AV.dat (D.int IntKind.i64 (rwrite_v4 nw b f n u))], []))
  | _, _ => .fail
theorem rwrite_raw0 (nw sa wa b : List D) (f n : Int) (u : Bool) : runF (envOf tab SpX [] [] []) true Try.f12 [.dat (.agg [.slc .one nw, .slc .one sa, .slc (.agg [.one, .one]) wa, .int .i64 f, .bool u]), .dat (.int .i64 n), .dat (.slc .one b)] [] =
  (bif u then some ([.dat (.agg [D.slc Sh.one nw, D.slc Sh.one sa, D.slc (Sh.agg [Sh.one, Sh.one]) wa, D.int .i64 f, D.bool u]), .dat (.int .i64 15)], []) else
   (bif decide (n < 0) then some ([.dat (.agg [D.slc Sh.one nw, D.slc Sh.one sa, D.slc (Sh.agg [Sh.one, Sh.one]) wa, D.int .i64 f, D.bool u]), .dat (.int .i64 16)], []) else
    (bif decide (n ≥ (↑(List.length nw) : Int)) then some ([.dat (.agg [D.slc Sh.one nw, D.slc Sh.one sa, D.slc (Sh.agg [Sh.one, Sh.one]) wa, D.int .i64 f, D.bool u]), .dat (.int .i64 16)], []) else
     (bif (↑(List.length b) : Int) != 128 then some ([.dat (.agg [D.slc Sh.one nw, D.slc Sh.one sa, D.slc (Sh.agg [Sh.one, Sh.one]) wa, D.int .i64 f, D.bool u]), .dat (.int .i64 1)], []) else
      (bif isBytes b then
       (bif wth_pre nw n { data := { toList := byteVs b } } then
        (bif fits (Sh.agg [Sh.one, Sh.one]) wa then
         (bif decide ((0 + List.length wa) * 24 ≤ 35184372088832) then
          (bif List.isEmpty wa then
           (bif isBytes b then
            (bif rburns_v1 f u then some ([.dat (.agg [D.slc Sh.one (seg (wiTo nw n { data := { toList := byteVs b } } (List.length nw)) 0 (List.length nw)), D.slc Sh.one sa, D.slc (Sh.agg [Sh.one, Sh.one]) [D.agg [D.int .i64 n, D.str { data := { toList := byteVs b } }]], D.int .i64 (rburns_v0 f), D.bool (rburns_v1 f u)]), .dat (.int .i64 15)], []) else some ([.dat (.agg [D.slc Sh.one (seg (wiTo nw n { data := { toList := byteVs b } } (List.length nw)) 0 (List.length nw)), D.slc Sh.one sa, D.slc (Sh.agg [Sh.one, Sh.one]) [D.agg [D.int .i64 n, D.str { data := { toList := byteVs b } }]], D.int .i64 (rburns_v0 f), D.bool (rburns_v1 f u)]), .dat (.int .i64 0)], [])) else none) else
           (bif isBytes b then
            (bif Nat.beq (List.length wa) (0 + List.length wa) && true && true && true && true && Nat.beq (0 + List.length wa) (0 + List.length wa) && true && true && decide ((0 + List.length wa + 1) * 24 ≤ 35184372088832) then
             (bif Nat.beq (List.length (wa ++ [D.agg [D.int .i64 n, D.str { data := { toList := byteVs b } }]])) (0 + List.length wa + 1) then
              (bif rburns_v1 f u then some ([.dat (.agg [D.slc Sh.one (seg (wiTo nw n { data := { toList := byteVs b } } (List.length nw)) 0 (List.length nw)), D.slc Sh.one sa, D.slc (Sh.agg [Sh.one, Sh.one]) (seg (wa ++ [D.agg [D.int .i64 n, D.str { data := { toList := byteVs b } }]]) 0 (0 + List.length wa + 1)), D.int .i64 (rburns_v0 f), D.bool (rburns_v1 f u)]), .dat (.int .i64 15)], []) else some ([.dat (.agg [D.slc Sh.one (seg (wiTo nw n { data := { toList := byteVs b } } (List.length nw)) 0 (List.length nw)), D.slc Sh.one sa, D.slc (Sh.agg [Sh.one, Sh.one]) (seg (wa ++ [D.agg [D.int .i64 n, D.str { data := { toList := byteVs b } }]]) 0 (0 + List.length wa + 1)), D.int .i64 (rburns_v0 f), D.bool (rburns_v1 f u)]), .dat (.int .i64 0)], [])) else none) else none) else none)) else none) else none) else none) else none))))) := by kernel_rfl
theorem rwrite_case0 (nw sa wa b : List D) (f n : Int) (u : Bool) : runF (envOf tab SpX [] [] []) true Try.f12 [.dat (.agg [.slc .one nw, .slc .one sa, .slc (.agg [.one, .one]) wa, .int .i64 f, .bool u]), .dat (.int .i64 n), .dat (.slc .one b)] [] = FunT.run C_rwrite [.dat (.agg [.slc .one nw, .slc .one sa, .slc (.agg [.one, .one]) wa, .int .i64 f, .bool u]), .dat (.int .i64 n), .dat (.slc .one b)] [] := (rwrite_raw0 nw sa wa b f n u).trans (by
  show _ = (cond (u || (decide (n < 0) || (decide ((↑(List.length nw) : Int) ≤ n) || ((↑(List.length b) : Int) != 128 || isBytes b && (wth_pre nw n { data := { toList := byteVs b } } && (fits (Sh.agg [Sh.one, Sh.one]) wa && (decide ((0 + List.length wa) * 24 ≤ 35184372088832) && (List.isEmpty wa || Nat.beq (List.length wa) (0 + List.length wa) && true && true && true && true && Nat.beq (0 + List.length wa) (0 + List.length wa) && true && true && decide ((0 + List.length wa + 1) * 24 ≤ 35184372088832) && Nat.beq (List.length (wa ++ [D.agg [D.int .i64 n, D.str { data := { toList := byteVs b } }]])) (0 + List.length wa + 1))))))))) (some (([.dat (.agg [D.slc Sh.one (bif u then nw else bif decide (n < 0) then nw else bif decide ((↑(List.length nw) : Int) ≤ n) then nw else bif (↑(List.length b) : Int) != 128 then nw else seg (wiTo nw n { data := { toList := byteVs b } } (List.length nw)) 0 (List.length nw)), D.slc Sh.one sa, D.slc (Sh.agg [Sh.one, Sh.one]) (bif u then wa else bif decide (n < 0) then wa else bif decide ((↑(List.length nw) : Int) ≤ n) then wa else bif (↑(List.length b) : Int) != 128 then wa else bif List.isEmpty wa then [D.agg [D.int .i64 n, D.str { data := { toList := byteVs b } }]] else seg (wa ++ [D.agg [D.int .i64 n, D.str { data := { toList := byteVs b } }]]) 0 (0 + List.length wa + 1)), D.int .i64 (bif u then f else bif decide (n < 0) then f else bif decide ((↑(List.length nw) : Int) ≤ n) then f else bif (↑(List.length b) : Int) != 128 then f else rburns_v0 f), D.bool (bif u then u else bif decide (n < 0) then u else bif decide ((↑(List.length nw) : Int) ≤ n) then u else bif (↑(List.length b) : Int) != 128 then u else rburns_v1 f u)]), .dat (.int .i64 (bif u then 15 else bif decide (n < 0) then 16 else bif decide ((↑(List.length nw) : Int) ≤ n) then 16 else bif (↑(List.length b) : Int) != 128 then 1 else bif rburns_v1 f u then 15 else 0))], []) : Res)) none)
  generalize (Nat.beq (List.length wa) (0 + List.length wa) && true && true && true && true && Nat.beq (0 + List.length wa) (0 + List.length wa) && true && true && decide ((0 + List.length wa + 1) * 24 ≤ 35184372088832)) = z0
  generalize (decide ((0 + List.length wa) * 24 ≤ 35184372088832)) = z1
  generalize (Nat.beq (List.length (wa ++ [D.agg [D.int .i64 n, D.str { data := { toList := byteVs b } }]])) (0 + List.length wa + 1)) = z2
  generalize (decide ((↑(List.length nw) : Int) ≤ n)) = z3
  generalize (decide (n < 0)) = z4
  generalize ((↑(List.length b) : Int) != 128) = z5
  generalize (fits (Sh.agg [Sh.one, Sh.one]) wa) = z6
  generalize (wth_pre nw n { data := { toList := byteVs b } }) = z7
  generalize (rburns_v1 f u) = z8
  generalize (List.isEmpty wa) = z9
  generalize (isBytes b) = z10
  generalize (u) = z11
  cases z11 with
  | true =>
   rfl
  | false =>
   cases z4 with
   | true =>
    rfl
   | false =>
    cases z3 with
    | true =>
     rfl
    | false =>
     cases z5 with
     | true =>
      rfl
     | false =>
      cases z10 with
      | true =>
       cases z7 with
       | true =>
        cases z6 with
        | true =>
         cases z1 with
         | true =>
          cases z9 with
          | true =>
           cases z8 with
           | true =>
            rfl
           | false =>
            rfl
          | false =>
           cases z0 with
           | true =>
            cases z2 with
            | true =>
             cases z8 with
             | true =>
              rfl
             | false =>
              rfl
            | false =>
             rfl
           | false =>
            rfl
         | false =>
          rfl
        | false =>
         rfl
       | false =>
        rfl
      | false =>
       rfl
  )
theorem crwrite_ok : FunOk Try.prog 12 (FunT.run C_rwrite) := by
  refine fun_ok (E := envOf tab SpX [] [] []) (fz := true) (fn := Try.f12) (envOf_ok progOk SpX_ok) (by kernel_rfl) (by kernel_rfl) (loops_none (by kernel_rfl)) ?_
  intro args σ r h
  unfold C_rwrite at h
  split at h
  · exact (rwrite_case0 _ _ _ _ _ _ _).trans h
  · simp [T.run_fail] at h
def rflush_v0 (nw : List D) (sa : List D) (f : Int) (u : Bool) : List D := bif u then sa else bif rburns_v1 f u then sa else nw
def rflush_v1 (wa : List D) (f : Int) (u : Bool) : List D := bif u then wa else bif rburns_v1 f u then wa else []
def rflush_v2 (f : Int) (u : Bool) : Int := bif u then f else rburns_v0 f
def rflush_v3 (f : Int) (u : Bool) : Bool := bif u then u else rburns_v1 f u
def rflush_v4 (f : Int) (u : Bool) : Int := bif u then 15 else bif rburns_v1 f u then 15 else 0
def C_rflush : FunT := fun args σ => match args, σ with
  | [AV.dat (D.agg [D.slc Sh.one nw, D.slc Sh.one sa, D.slc (Sh.agg [Sh.one, Sh.one]) wa, D.int IntKind.i64 f, D.bool u])], [] => .leaf ([AV.dat (D.agg [D.slc Sh.one nw, D.slc Sh.one (rflush_v0 nw sa f u), D.slc (Sh.agg [Sh.one, Sh.one]) (rflush_v1 wa f u), D.int IntKind.i64 (rflush_v2 f u), D.bool (rflush_v3 f u)]), AV.dat (D.int IntKind.i64 (rflush_v4 f u))], [])
  | _, _ => .fail
theorem rflush_raw0 (nw sa wa : List D) (f : Int) (u : Bool) : runF (envOf tab SpX [] [] []) true Try.f14 [.dat (.agg [.slc .one nw, .slc .one sa, .slc (.agg [.one, .one]) wa, .int .i64 f, .bool u])] [] =
  (bif u then some ([.dat (.agg [D.slc Sh.one nw, D.slc Sh.one sa, D.slc (Sh.agg [Sh.one, Sh.one]) wa, D.int .i64 f, D.bool u]), .dat (.int .i64 15)], []) else
   (bif rburns_v1 f u then some ([.dat (.agg [D.slc Sh.one nw, D.slc Sh.one sa, D.slc (Sh.agg [Sh.one, Sh.one]) wa, D.int .i64 (rburns_v0 f), D.bool (rburns_v1 f u)]), .dat (.int .i64 15)], []) else some ([.dat (.agg [D.slc Sh.one nw, D.slc Sh.one nw, D.slc (Sh.agg [Sh.one, Sh.one]) [], D.int .i64 (rburns_v0 f), D.bool (rburns_v1 f u)]), .dat (.int .i64 0)], []))) := by kernel_rfl
theorem rflush_case0 (nw sa wa : List D) (f : Int) (u : Bool) : runF (envOf tab SpX [] [] []) true Try.f14 [.dat (.agg [.slc .one nw, .slc .one sa, .slc (.agg [.one, .one]) wa, .int .i64 f, .bool u])] [] = FunT.run C_rflush [.dat (.agg [.slc .one nw, .slc .one sa, .slc (.agg [.one, .one]) wa, .int .i64 f, .bool u])] [] := (rflush_raw0 nw sa wa f u).trans (by
  show _ = (some (([.dat (.agg [D.slc Sh.one nw, D.slc Sh.one (bif u then sa else bif rburns_v1 f u then sa else nw), D.slc (Sh.agg [Sh.one, Sh.one]) (bif u then wa else bif rburns_v1 f u then wa else []), D.int .i64 (bif u then f else rburns_v0 f), D.bool (bif u then u else rburns_v1 f u)]), .dat (.int .i64 (bif u then 15 else bif rburns_v1 f u then 15 else 0))], []) : Res))
  generalize (rburns_v1 f u) = z0
  generalize (u) = z1
  cases z1 with
  | true =>
   rfl
  | false =>
   cases z0 with
   | true =>
    rfl
   | false =>
    rfl
  )
theorem crflush_ok : FunOk Try.prog 14 (FunT.run C_rflush) := by
  refine fun_ok (E := envOf tab SpX [] [] []) (fz := true) (fn := Try.f14) (envOf_ok progOk SpX_ok) (by kernel_rfl) (by kernel_rfl) (loops_none (by kernel_rfl)) ?_
  intro args σ r h
  unfold C_rflush at h
  split at h
  · exact (rflush_case0 _ _ _ _ _).trans h
  · simp [T.run_fail] at h
def rfused_v0 (n : Int) : Int := bif decide (n < 0) then (-1 : Int) else n
def C_rfused : FunT := fun args σ => match args, σ with
  | [AV.dat (D.agg [D.slc Sh.one nw, D.slc Sh.one sa, D.slc (Sh.agg [Sh.one, Sh.one]) wa, D.int IntKind.i64 _, D.bool u]), AV.dat (D.int IntKind.i64 n)], [] => .leaf ([AV.dat (D.agg [D.slc Sh.one nw, D.slc Sh.one sa, D.slc (Sh.agg [Sh.one, Sh.one]) wa, D.int IntKind.i64 (rfused_v0 n), D.bool u])], [])
  | _, _ => .fail
theorem rfused_raw0 (nw sa wa : List D) (f n : Int) (u : Bool) : runF (envOf tab SpX [] [] []) true Try.f16 [.dat (.agg [.slc .one nw, .slc .one sa, .slc (.agg [.one, .one]) wa, .int .i64 f, .bool u]), .dat (.int .i64 n)] [] =
  (bif decide (n < 0) then some ([.dat (.agg [D.slc Sh.one nw, D.slc Sh.one sa, D.slc (Sh.agg [Sh.one, Sh.one]) wa, D.int .i64 (-1 : Int), D.bool u])], []) else some ([.dat (.agg [D.slc Sh.one nw, D.slc Sh.one sa, D.slc (Sh.agg [Sh.one, Sh.one]) wa, D.int .i64 n, D.bool u])], [])) := by kernel_rfl
theorem rfused_case0 (nw sa wa : List D) (f n : Int) (u : Bool) : runF (envOf tab SpX [] [] []) true Try.f16 [.dat (.agg [.slc .one nw, .slc .one sa, .slc (.agg [.one, .one]) wa, .int .i64 f, .bool u]), .dat (.int .i64 n)] [] = FunT.run C_rfused [.dat (.agg [.slc .one nw, .slc .one sa, .slc (.agg [.one, .one]) wa, .int .i64 f, .bool u]), .dat (.int .i64 n)] [] := (rfused_raw0 nw sa wa f n u).trans (by
  show _ = (some (([.dat (.agg [D.slc Sh.one nw, D.slc Sh.one sa, D.slc (Sh.agg [Sh.one, Sh.one]) wa, D.int .i64 (bif decide (n < 0) then (-1 : Int) else n), D.bool u])], []) : Res))
  generalize (decide (n < 0)) = z0
  cases z0 with
  | true =>
   rfl
  | false =>
   rfl
  )
theorem crfused_ok : FunOk Try.prog 16 (FunT.run C_rfused) := by
  refine fun_ok (E := envOf tab SpX [] [] []) (fz := true) (fn := Try.f16) (envOf_ok progOk SpX_ok) (by kernel_rfl) (by kernel_rfl) (loops_none (by kernel_rfl)) ?_
  intro args σ r h
  unfold C_rfused at h
  split at h
  · exact (rfused_case0 _ _ _ _ _ _).trans h
  · simp [T.run_fail] at h
def rread_v0 (nw : List D) (n : Int) (u : Bool) : ByteArray := bif u then { data := { toList := [] } } else bif decide (n < 0) then { data := { toList := [] } } else bif decide ((↑(List.length nw) : Int) ≤ n) then { data := { toList := [] } } else D.getS (nthD nw (Int.toNat n))
def rread_v1 (nw : List D) (n : Int) (u : Bool) : Int := bif u then 15 else bif decide (n < 0) then 16 else bif decide ((↑(List.length nw) : Int) ≤ n) then 16 else 0
def rread_pre (nw : List D) (n : Int) (u : Bool) : Bool := u || (decide (n < 0) || (decide ((↑(List.length nw) : Int) ≤ n) || decide (0 ≤ n) && (decide (Int.toNat n < List.length nw) && okE Ek.str (nthD nw (Int.toNat n)))))
def C_rread : FunT := fun args σ => match args, σ with
  | [AV.dat (D.agg [D.slc Sh.one nw, D.slc Sh.one _, D.slc (Sh.agg [Sh.one, Sh.one]) _, D.int IntKind.i64 _, D.bool u]), AV.dat (D.int IntKind.i64 n)], [] => .chk ((rread_pre nw n u)) (.leaf ([AV.dat (D.str (rread_v0 nw n u)), AV.dat (D.int IntKind.i64 (rread_v1 nw n u))], []))
  | _, _ => .fail
theorem rread_raw0 (nw sa wa : List D) (f n : Int) (u : Bool) : runF (envOf tab SpX [] [] []) true Try.f20 [.dat (.agg [.slc .one nw, .slc .one sa, .slc (.agg [.one, .one]) wa, .int .i64 f, .bool u]), .dat (.int .i64 n)] [] =
  (bif u then some ([.dat (.str { data := { toList := [] } }), .dat (.int .i64 15)], []) else
   (bif decide (n < 0) then some ([.dat (.str { data := { toList := [] } }), .dat (.int .i64 16)], []) else
    (bif decide (n ≥ (↑(List.length nw) : Int)) then some ([.dat (.str { data := { toList := [] } }), .dat (.int .i64 16)], []) else
     (bif decide (0 ≤ n) then
      (bif decide (Int.toNat n < List.length nw) then
       (bif okE Ek.str (nthD nw (Int.toNat n)) then some ([.dat (.str (D.getS (nthD nw (Int.toNat n)))), .dat (.int .i64 0)], []) else none) else none) else none)))) := by kernel_rfl
theorem rread_case0 (nw sa wa : List D) (f n : Int) (u : Bool) : runF (envOf tab SpX [] [] []) true Try.f20 [.dat (.agg [.slc .one nw, .slc .one sa, .slc (.agg [.one, .one]) wa, .int .i64 f, .bool u]), .dat (.int .i64 n)] [] = FunT.run C_rread [.dat (.agg [.slc .one nw, .slc .one sa, .slc (.agg [.one, .one]) wa, .int .i64 f, .bool u]), .dat (.int .i64 n)] [] := (rread_raw0 nw sa wa f n u).trans (by
  show _ = (cond (u || (decide (n < 0) || (decide ((↑(List.length nw) : Int) ≤ n) || decide (0 ≤ n) && (decide (Int.toNat n < List.length nw) && okE Ek.str (nthD nw (Int.toNat n)))))) (some (([.dat (.str (bif u then { data := { toList := [] } } else bif decide (n < 0) then { data := { toList := [] } } else bif decide ((↑(List.length nw) : Int) ≤ n) then { data := { toList := [] } } else D.getS (nthD nw (Int.toNat n)))), .dat (.int .i64 (bif u then 15 else bif decide (n < 0) then 16 else bif decide ((↑(List.length nw) : Int) ≤ n) then 16 else 0))], []) : Res)) none)
  generalize (decide ((↑(List.length nw) : Int) ≤ n)) = z0
  generalize (decide (0 ≤ n)) = z1
  generalize (decide (n < 0)) = z2
  generalize (decide (Int.toNat n < List.length nw)) = z3
  generalize (okE Ek.str (nthD nw (Int.toNat n))) = z4
  generalize (u) = z5
  cases z5 with
  | true =>
   rfl
  | false =>
   cases z2 with
   | true =>
    rfl
   | false =>
    cases z0 with
    | true =>
     rfl
    | false =>
     cases z1 with
     | true =>
      cases z3 with
      | true =>
       cases z4 with
       | true =>
        rfl
       | false =>
        rfl
      | false =>
       rfl
     | false =>
      rfl
  )
theorem crread_ok : FunOk Try.prog 20 (FunT.run C_rread) := by
  refine fun_ok (E := envOf tab SpX [] [] []) (fz := true) (fn := Try.f20) (envOf_ok progOk SpX_ok) (by kernel_rfl) (by kernel_rfl) (loops_none (by kernel_rfl)) ?_
  intro args σ r h
  unfold C_rread at h
  split at h
  · exact (rread_case0 _ _ _ _ _ _).trans h
  · simp [T.run_fail] at h
end Go.Proofs.Ythhipekbkodjoaa
