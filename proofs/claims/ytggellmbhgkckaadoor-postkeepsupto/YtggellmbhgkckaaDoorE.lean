/- Seat 17: DeleteFunc, Of. -/
import Derived.Test.YtggellmbhgkckaaDoorD
import Derived.Test.YtggellmbhgkckaaDoorAx22
namespace Go.Proofs.YtggellmbhgkckaaDoor
open Go.AX
set_option maxRecDepth 100000
abbrev boxL (ls : List D) : Blk := ⟨.one, false, false, .dat (.slc (.agg [.one, .one, .one, .one, .one]) ls)⟩
abbrev boxW (w : Int) : Blk := ⟨.one, false, false, .dat (.int .i64 w)⟩
def no_pre (ls : List D) (i : Int) : Bool := decide (0 ≤ i) && (decide (Int.toNat i < List.length ls) && okE (k23) (nthD ls (Int.toNat i)))
def C_no : FunT := fun args σ => match args, σ with
  | [AV.dat (D.int IntKind.i64 i), AV.ptr Sh.one 0 0 [], AV.ptr Sh.one 1 0 []], [{ sh := Sh.one, dyn := false, frz := false, v := AV.dat (D.slc (Sh.agg [Sh.one, Sh.one, Sh.one, Sh.one, Sh.one]) ls) }, { sh := Sh.one, dyn := false, frz := false, v := AV.dat (D.int IntKind.i64 w) }] => .chk ((no_pre ls i)) (.leaf ([AV.dat (D.bool (D.getI (nthD (D.getL (nthD ls (Int.toNat i))) 3) != w))], [{ sh := Sh.one, dyn := false, frz := false, v := AV.dat (D.slc (s23) ls) }, { sh := Sh.one, dyn := false, frz := false, v := AV.dat (D.int IntKind.i64 w) }]))
  | _, _ => .fail
theorem no_raw0 (ls : List D) (w i : Int) : runF (envOf tab [] [] [] []) true Tryd.f19 [.dat (.int .i64 i), .ptr .one 0 0 [], .ptr .one 1 0 []] [boxL ls, boxW w] =
  (bif decide (0 ≤ i) then
   (bif decide (Int.toNat i < List.length ls) then
    (bif okE (k23) (nthD ls (Int.toNat i)) then some ([.dat (.bool (D.getI (nthD (D.getL (nthD ls (Int.toNat i))) 3) != w))], [{ sh := Sh.one, dyn := false, frz := false, v := .dat (.slc (s23) ls) }, { sh := Sh.one, dyn := false, frz := false, v := .dat (.int .i64 w) }]) else none) else none) else none) := by kernel_rfl
theorem no_case0 (ls : List D) (w i : Int) : runF (envOf tab [] [] [] []) true Tryd.f19 [.dat (.int .i64 i), .ptr .one 0 0 [], .ptr .one 1 0 []] [boxL ls, boxW w] = FunT.run C_no [.dat (.int .i64 i), .ptr .one 0 0 [], .ptr .one 1 0 []] [boxL ls, boxW w] := (no_raw0 ls w i).trans (by
  show _ = (cond (decide (0 ≤ i) && (decide (Int.toNat i < List.length ls) && okE (k23) (nthD ls (Int.toNat i)))) (some (([.dat (.bool (D.getI (nthD (D.getL (nthD ls (Int.toNat i))) 3) != w))], [{ sh := Sh.one, dyn := false, frz := false, v := .dat (.slc (s23) ls) }, { sh := Sh.one, dyn := false, frz := false, v := .dat (.int .i64 w) }]) : Res)) none)
  generalize (okE (k23) (nthD ls (Int.toNat i))) = z0
  generalize (decide (0 ≤ i)) = z1
  generalize (decide (Int.toNat i < List.length ls)) = z2
  cases z1 with
  | true =>
   cases z2 with
   | true =>
    cases z0 with
    | true =>
     rfl
    | false =>
     rfl
   | false =>
    rfl
  | false =>
   rfl
  )
theorem cno_ok : FunOk Tryd.prog 19 (FunT.run C_no) := by
  refine fun_ok (E := envOf tab [] [] [] []) (fz := true) (fn := Tryd.f19) (envOf_ok progOk (.nil _)) (by kernel_rfl) (by kernel_rfl) (loops_none (by kernel_rfl)) ?_
  intro args σ r h
  unfold C_no at h
  split at h
  · exact (no_case0 _ _ _).trans h
  · simp [T.run_fail] at h
def okNo (ls out : List D) : Bool := (out.all fun d => okE (.int .i64) d && no_pre ls (D.getI d)) && decide (out.length ≤ 1099511627776)
theorem okNo_nth {ls out : List D} (h : okNo ls out = true) {i : Nat} (hi : i < out.length) : okE (.int .i64) (nthD out i) = true ∧ no_pre ls (D.getI (nthD out i)) = true ∧ out.length ≤ 1099511627776 := by
  unfold okNo at h
  simp only [Bool.and_eq_true, decide_eq_true_eq] at h
  have := List.all_eq_true.1 h.1 _ (nthD_mem hi)
  simp only [Bool.and_eq_true] at this
  exact ⟨this.1, this.2, h.2⟩
abbrev noP (ls : List D) (w : Int) (d : D) : Bool := D.getI (nthD (D.getL (nthD ls (D.getI d).toNat)) 3) != w
def ix_fr (_ls _out : List D) (m k : Nat) (_w n : Int) : Int → Frame' := fun i => mkF 19 [(0, .sref .one 0 m [] 0 k), (1, .fn (.func 19) [] [.ptr .one 1 0 [], .ptr .one 2 0 []]), (7, .dat (.int .i64 n)), (8, .dat (.int .i64 i))]
def ix_st (ls out : List D) (_m _k : Nat) (w _n : Int) : Int → Store := fun _ => [mkDyn .one out, boxL ls, boxW w]
def ix_step (ls out : List D) (m k : Nat) (w n : Int) : Int → T (Int ⊕ LOut) := fun i =>
  .chk (!decide (i < n) || decide (0 ≤ i) && (decide (i < (↑k : Int)) && (Nat.beq (List.length out) m && (decide (0 + Int.toNat i < List.length out) && (okE (Ek.int IntKind.i64) (nthD out (0 + Int.toNat i)) && no_pre ls (D.getI (nthD out (0 + Int.toNat i)))))))) (
   .br (!decide (i < n)) (.leaf (.inr ((some 0), mkF 19 [], [{ sh := Sh.arr Sh.one 0, dyn := true, frz := false, v := .dat (.arr Sh.one out) }, { sh := Sh.one, dyn := false, frz := false, v := .dat (.slc (s23) ls) }, { sh := Sh.one, dyn := false, frz := false, v := .dat (.int .i64 w) }]))) (
    .br (decide (i < n) && D.getI (nthD (D.getL (nthD ls (Int.toNat (D.getI (nthD out (0 + Int.toNat i)))))) 3) != w) (.leaf (.inr (none, mkF 19 [(4, .dat (.int .i64 i))], [{ sh := Sh.arr Sh.one 0, dyn := true, frz := false, v := .dat (.arr Sh.one out) }, { sh := Sh.one, dyn := false, frz := false, v := .dat (.slc (s23) ls) }, { sh := Sh.one, dyn := false, frz := false, v := .dat (.int .i64 w) }]))) (.leaf (.inl (IntKind.wrap IntKind.i64 (i + 1))))))
theorem ix_round (lp : Loops) (ls out : List D) (m k : Nat) (w n : Int) (i : Int) (K : Kt) : oneRound (envOf tab [(19, C_no)] [] lp []) Tryd.f32 0 (3) (mkF 19 [(0, .sref .one 0 m [] 0 k), (1, .fn (.func 19) [] [.ptr .one 1 0 [], .ptr .one 2 0 []]), (7, .dat (.int .i64 n)), (8, .dat (.int .i64 i))]) ([mkDyn .one out, boxL ls, boxW w]) K =
  (bif decide (i < n) then
   (bif decide (0 ≤ i) then
    (bif decide (i < (↑k : Int)) then
     (bif Nat.beq (List.length out) m && true && true then
      (bif decide (0 + Int.toNat i < List.length out) then
       (bif okE (Ek.int IntKind.i64) (nthD out (0 + Int.toNat i)) then
        (bif no_pre ls (D.getI (nthD out (0 + Int.toNat i))) then
         (bif D.getI (nthD (D.getL (nthD ls (Int.toNat (D.getI (nthD out (0 + Int.toNat i)))))) 3) != w then K (Exit.ret) (mkF 19 [(4, .dat (.int .i64 i))]) ([{ sh := Sh.arr Sh.one 0, dyn := true, frz := false, v := .dat (.arr Sh.one out) }, { sh := Sh.one, dyn := false, frz := false, v := .dat (.slc (s23) ls) }, { sh := Sh.one, dyn := false, frz := false, v := .dat (.int .i64 w) }]) else K (Exit.normal) (mkF 19 [(0, AV.sref Sh.one 0 m [] 0 k), (1, AV.fn (Fn.func 19) [] [AV.ptr Sh.one 1 0 [], AV.ptr Sh.one 2 0 []]), (7, .dat (.int .i64 n)), (8, .dat (.int .i64 (IntKind.wrap IntKind.i64 (i + 1)))), (9, .dat (.bool (decide (i < n)))), (18, .dat (.int .i64 (IntKind.wrap IntKind.i64 (i + 1))))]) ([{ sh := Sh.arr Sh.one 0, dyn := true, frz := false, v := .dat (.arr Sh.one out) }, { sh := Sh.one, dyn := false, frz := false, v := .dat (.slc (s23) ls) }, { sh := Sh.one, dyn := false, frz := false, v := .dat (.int .i64 w) }])) else none) else none) else none) else none) else none) else none) else K (Exit.exit 0) (mkF 19 []) ([{ sh := Sh.arr Sh.one 0, dyn := true, frz := false, v := .dat (.arr Sh.one out) }, { sh := Sh.one, dyn := false, frz := false, v := .dat (.slc (s23) ls) }, { sh := Sh.one, dyn := false, frz := false, v := .dat (.int .i64 w) }])) := by kernel_rfl
theorem ix_hr (lp : Loops) (ls out : List D) (m k : Nat) (w n : Int) : ∀ (sA : Int) (K : Kt) (N : Int → Option Res), (∀ sB fr' σ', cleanF (liveAt Tryd.f32 0) 0 fr' = ix_fr ls out m k w n sB → trim (3) (ix_fr ls out m k w n sB) σ' = ix_st ls out m k w n sB → K .normal fr' σ' = N sB) →
    oneRound (envOf tab [(19, C_no)] [] lp []) Tryd.f32 0 (3) (ix_fr ls out m k w n sA) (ix_st ls out m k w n sA) K = (ix_step ls out m k w n sA).k (LK K N) := by
  intro i K N hN
  refine (ix_round lp ls out m k w n i K).trans ?_
  show _ = T.k ((
  .chk (!decide (i < n) || decide (0 ≤ i) && (decide (i < (↑k : Int)) && (Nat.beq (List.length out) m && (decide (0 + Int.toNat i < List.length out) && (okE (Ek.int IntKind.i64) (nthD out (0 + Int.toNat i)) && no_pre ls (D.getI (nthD out (0 + Int.toNat i)))))))) (
   .br (!decide (i < n)) (.leaf (.inr ((some 0), mkF 19 [], [{ sh := Sh.arr Sh.one 0, dyn := true, frz := false, v := .dat (.arr Sh.one out) }, { sh := Sh.one, dyn := false, frz := false, v := .dat (.slc (s23) ls) }, { sh := Sh.one, dyn := false, frz := false, v := .dat (.int .i64 w) }]))) (
    .br (decide (i < n) && D.getI (nthD (D.getL (nthD ls (Int.toNat (D.getI (nthD out (0 + Int.toNat i)))))) 3) != w) (.leaf (.inr (none, mkF 19 [(4, .dat (.int .i64 i))], [{ sh := Sh.arr Sh.one 0, dyn := true, frz := false, v := .dat (.arr Sh.one out) }, { sh := Sh.one, dyn := false, frz := false, v := .dat (.slc (s23) ls) }, { sh := Sh.one, dyn := false, frz := false, v := .dat (.int .i64 w) }]))) (.leaf (.inl (IntKind.wrap IntKind.i64 (i + 1))))))) : T (Int ⊕ LOut)) (LK K N)
  generalize (decide (0 + Int.toNat i < List.length out)) = z0
  generalize (D.getI (nthD (D.getL (nthD ls (Int.toNat (D.getI (nthD out (0 + Int.toNat i)))))) 3) != w) = z1
  generalize (no_pre ls (D.getI (nthD out (0 + Int.toNat i)))) = z2
  generalize (okE (Ek.int IntKind.i64) (nthD out (0 + Int.toNat i))) = z3
  generalize (decide (0 ≤ i)) = z4
  generalize (decide (i < (↑k : Int))) = z5
  generalize (decide (i < n)) = z6
  generalize (Nat.beq (List.length out) m) = z7
  cases z6 with
  | true =>
   cases z4 with
   | true =>
    cases z5 with
    | true =>
     cases z7 with
     | true =>
      cases z0 with
      | true =>
       cases z3 with
       | true =>
        cases z2 with
        | true =>
         cases z1 with
         | true =>
          rfl
         | false =>
          exact hN _ _ _ (by kernel_rfl) (by kernel_rfl)
        | false =>
         rfl
       | false =>
        rfl
      | false =>
       rfl
     | false =>
      rfl
    | false =>
     rfl
   | false =>
    rfl
  | false =>
   rfl
theorem ix_enter (ls out : List D) (m k : Nat) (w n : Int) (i : Int) (fr : Frame') (hl : Nat.beq fr.length 19 = true) (g0 : fr.getD 0 .undef = AV.sref Sh.one 0 m [] 0 k) (g1 : fr.getD 1 .undef = AV.fn (Fn.func 19) [] [AV.ptr Sh.one 1 0 [], AV.ptr Sh.one 2 0 []]) (g7 : fr.getD 7 .undef = .dat (.int .i64 n)) (g8 : fr.getD 8 .undef = .dat (.int .i64 i)) : cleanF (liveAt Tryd.f32 0) 0 fr = ix_fr ls out m k w n i := by
  have e : liveAt Tryd.f32 0 = [7, 1, 0, 8] := by kernel_rfl
  rw [clean_mk (Nat.eq_of_beq_eq_true hl), e]
  show mkF 19 [(7, fr.getD 7 .undef), (1, fr.getD 1 .undef), (0, fr.getD 0 .undef), (8, fr.getD 8 .undef)] = _
  rw [g7, g1, g0, g8]
  kernel_rfl
theorem ix_closed (ls out : List D) (m k : Nat) (w n : Int) (hc : (decide (n = (k : Int)) && (Nat.beq m out.length && (Nat.beq k out.length && okNo ls out))) = true) :
    ∃ z, (iterT (ix_step ls out m k w n) z 0).run = T.run (.br (out.any (noP ls w)) (.leaf (none, mkF 19 [(4, .dat (.int .i64 (out.findIdx (noP ls w) : Nat)))], [mkDyn .one out, boxL ls, boxW w])) (.leaf (some 0, mkF 19 [], [mkDyn .one out, boxL ls, boxW w]))) := by
  simp only [Bool.and_eq_true, decide_eq_true_eq] at hc
  obtain ⟨rfl, h1, h2, h3⟩ := hc
  obtain rfl := Nat.eq_of_beq_eq_true h1
  obtain rfl := Nat.eq_of_beq_eq_true h2
  obtain ⟨z, hz⟩ := iter_find (step := ix_step ls out out.length out.length w out.length) (ls := out) (p := noP ls w) (o := fun i => (none, mkF 19 [(4, .dat (.int .i64 (i : Int)))], [mkDyn .one out, boxL ls, boxW w])) (o' := (some 0, mkF 19 [], [mkDyn .one out, boxL ls, boxW w]))
    (fun i hi => by
      obtain ⟨q1, q2, q3⟩ := okNo_nth h3 hi
      unfold ix_step
      simp only [decide_eq_true (show (i : Int) < (out.length : Int) by omega), decide_eq_true (show (0 : Int) ≤ (i : Int) by omega), Int.toNat_natCast, Nat.zero_add, decide_eq_true hi, q1, q2, beq_self, wrap_succ (show i < 2 ^ 62 by omega), Bool.not_true, Bool.false_or, Bool.true_and, T.run_br, T.run_chk, T.run_leaf, cond_true, cond_false]
      exact bif_some _ _ _)
    (by
      unfold ix_step
      simp only [decide_eq_false (show ¬ (out.length : Int) < (out.length : Int) by omega)]
      rfl)
  refine ⟨z, hz.trans ?_⟩
  cases out.any (noP ls w) <;> rfl
def L_ix : Frame' → Store → T (Exit × Frame' × Store) := fun fr σ => match fr.getD 0 .undef, fr.getD 1 .undef, fr.getD 7 .undef, fr.getD 8 .undef, σ with
  | AV.sref Sh.one 0 m [] 0 k, AV.fn (Fn.func 19) [] [AV.ptr Sh.one 1 0 [], AV.ptr Sh.one 2 0 []], AV.dat (D.int IntKind.i64 n), AV.dat (D.int IntKind.i64 0), [{ sh := Sh.arr Sh.one 0, dyn := true, frz := false, v := AV.dat (D.arr Sh.one out) }, { sh := Sh.one, dyn := false, frz := false, v := AV.dat (D.slc (Sh.agg [Sh.one, Sh.one, Sh.one, Sh.one, Sh.one]) ls) }, { sh := Sh.one, dyn := false, frz := false, v := AV.dat (D.int IntKind.i64 w) }] => .chk (Nat.beq fr.length 19 && (decide (n = (k : Int)) && (Nat.beq m out.length && (Nat.beq k out.length && okNo ls out)))) (T.bind (.br (out.any (noP ls w)) (.leaf (none, mkF 19 [(4, .dat (.int .i64 (out.findIdx (noP ls w) : Nat)))], [mkDyn .one out, boxL ls, boxW w])) (.leaf (some 0, mkF 19 [], [mkDyn .one out, boxL ls, boxW w]))) fun o => .leaf (outEx o.1, o.2.1, o.2.2))
  | _, _, _, _, _ => .fail
theorem ix_sem (lp : Loops) : ∀ fr σ p, (L_ix fr σ).run = some p → ∀ (K : Kt) r, K p.1 p.2.1 p.2.2 = some r → ∃ n, loopRun (envOf tab [(19, C_no)] [] lp []) Tryd.f32 0 σ.length n (cleanF (liveAt Tryd.f32 0) 0 fr) σ K = some r := by
  intro fr σ p h K r hK
  unfold L_ix at h
  split at h
  · rename_i m k n out ls w g0 g1 g7 g8
    obtain ⟨hc, h'⟩ := T.chk_some h
    rw [Bool.and_eq_true] at hc
    obtain ⟨hl, hc⟩ := hc
    obtain ⟨o, ho, h'⟩ := T.bind_some h'
    have hp := T.leaf_some h'
    subst hp
    obtain ⟨nF, hn⟩ : ∃ nF, (iterT (ix_step ls out m k w n) nF (0)).run = T.run (.br (out.any (noP ls w)) (.leaf (none, mkF 19 [(4, .dat (.int .i64 (out.findIdx (noP ls w) : Nat)))], [mkDyn .one out, boxL ls, boxW w])) (.leaf (some 0, mkF 19 [], [mkDyn .one out, boxL ls, boxW w]))) := ix_closed ls out m k w n hc
    rw [ho] at hn
    refine ⟨nF, ?_⟩
    have he : cleanF (liveAt Tryd.f32 0) 0 fr = ix_fr ls out m k w n (0) := ix_enter ls out m k w n _ fr hl g0 g1 g7 g8
    refine (iter_ok (base := 3) (ix_hr lp ls out m k w n) K nF (0) _ _ (by rw [clean_clean]; exact he) (by kernel_rfl)).trans ?_
    rw [T.k_run hn]
    exact hK
  · simp [T.run_fail] at h
theorem ix_loopOk {k : Nat} (lp : Loops) (hk : Loops.get lp 2 = some L_ix) : LoopOkN Tryd.prog k (envOf tab [(19, C_no)] [] lp []) (loopAt Tryd.f32 0).1 (loopAt Tryd.f32 0).2 := loop_okN (L := L_ix) (by kernel_rfl) hk (ix_sem lp)
def ix_v0 (ls : List D) (out : List D) (w : Int) : Int := bif List.any out (noP ls w) then (↑(List.findIdx (noP ls w) out) : Int) else (-1 : Int)
def ix_pre (ls : List D) (out : List D) (m : Nat) (k : Nat) : Bool := decide ((↑k : Int) = (↑k : Int)) && (Nat.beq m (List.length out) && (Nat.beq k (List.length out) && okNo ls out))
def C_ix : FunT := fun args σ => match args, σ with
  | [AV.sref Sh.one 0 m [] 0 k, AV.fn (Fn.func 19) [] [AV.ptr Sh.one 1 0 [], AV.ptr Sh.one 2 0 []]], [{ sh := Sh.arr Sh.one 0, dyn := true, frz := false, v := AV.dat (D.arr Sh.one out) }, { sh := Sh.one, dyn := false, frz := false, v := AV.dat (D.slc (Sh.agg [Sh.one, Sh.one, Sh.one, Sh.one, Sh.one]) ls) }, { sh := Sh.one, dyn := false, frz := false, v := AV.dat (D.int IntKind.i64 w) }] => .chk ((ix_pre ls out m k)) (.leaf ([AV.dat (D.int IntKind.i64 (ix_v0 ls out w))], [{ sh := Sh.arr Sh.one 0, dyn := true, frz := false, v := AV.dat (D.arr Sh.one out) }, { sh := Sh.one, dyn := false, frz := false, v := AV.dat (D.slc (s23) ls) }, { sh := Sh.one, dyn := false, frz := false, v := AV.dat (D.int IntKind.i64 w) }]))
  | _, _ => .fail
theorem ix_raw0 (ls out : List D) (m k : Nat) (w : Int) : runF (envOf tab [(19, C_no)] [] [(2, L_ix)] []) true Tryd.f32 [.sref .one 0 m [] 0 k, .fn (.func 19) [] [.ptr .one 1 0 [], .ptr .one 2 0 []]] [mkDyn .one out, boxL ls, boxW w] =
  (bif decide ((↑k : Int) = (↑k : Int)) && (Nat.beq m (List.length out) && (Nat.beq k (List.length out) && okNo ls out)) then
   (bif List.any out (noP ls w) then some ([.dat (.int .i64 (↑(List.findIdx (noP ls w) out) : Int))], [{ sh := Sh.arr Sh.one 0, dyn := true, frz := false, v := .dat (.arr Sh.one out) }, { sh := Sh.one, dyn := false, frz := false, v := .dat (.slc (s23) ls) }, { sh := Sh.one, dyn := false, frz := false, v := .dat (.int .i64 w) }]) else some ([.dat (.int .i64 (-1 : Int))], [{ sh := Sh.arr Sh.one 0, dyn := true, frz := false, v := .dat (.arr Sh.one out) }, { sh := Sh.one, dyn := false, frz := false, v := .dat (.slc (s23) ls) }, { sh := Sh.one, dyn := false, frz := false, v := .dat (.int .i64 w) }])) else none) := by kernel_rfl
theorem ix_case0 (ls out : List D) (m k : Nat) (w : Int) : runF (envOf tab [(19, C_no)] [] [(2, L_ix)] []) true Tryd.f32 [.sref .one 0 m [] 0 k, .fn (.func 19) [] [.ptr .one 1 0 [], .ptr .one 2 0 []]] [mkDyn .one out, boxL ls, boxW w] = FunT.run C_ix [.sref .one 0 m [] 0 k, .fn (.func 19) [] [.ptr .one 1 0 [], .ptr .one 2 0 []]] [mkDyn .one out, boxL ls, boxW w] := (ix_raw0 ls out m k w).trans (by
  show _ = (cond (decide ((↑k : Int) = (↑k : Int)) && (Nat.beq m (List.length out) && (Nat.beq k (List.length out) && okNo ls out))) (some (([.dat (.int .i64 (bif List.any out (noP ls w) then (↑(List.findIdx (noP ls w) out) : Int) else (-1 : Int)))], [{ sh := Sh.arr Sh.one 0, dyn := true, frz := false, v := .dat (.arr Sh.one out) }, { sh := Sh.one, dyn := false, frz := false, v := .dat (.slc (s23) ls) }, { sh := Sh.one, dyn := false, frz := false, v := .dat (.int .i64 w) }]) : Res)) none)
  generalize (decide ((↑k : Int) = (↑k : Int)) && (Nat.beq m (List.length out) && (Nat.beq k (List.length out) && okNo ls out))) = z0
  generalize (List.any out (noP ls w)) = z1
  cases z0 with
  | true =>
   cases z1 with
   | true =>
    rfl
   | false =>
    rfl
  | false =>
   rfl
  )
theorem cix_ok : FunOk Tryd.prog 32 (FunT.run C_ix) := by
  refine fun_ok (E := envOf tab [(19, C_no)] [] [(2, L_ix)] []) (fz := true) (fn := Tryd.f32) (envOf_ok progOk (.cons cno_ok (.nil _))) (by kernel_rfl) (by kernel_rfl) (loops_one (by kernel_rfl) (ix_loopOk _ rfl)) ?_
  intro args σ r h
  unfold C_ix at h
  split at h
  · exact (ix_case0 _ _ _ _ _).trans h
  · simp [T.run_fail] at h
def de_fr (_ls : List D) (m k : Nat) (_w : Int) : (Int × Int × List D) → Frame' := fun ⟨j, i, _⟩ => mkF 42 [(0, .sref .one 0 m [] 0 k), (1, .fn (.func 19) [] [.ptr .one 1 0 [], .ptr .one 2 0 []]), (5, .dat (.int .i64 i)), (6, .dat (.int .i64 j))]
def de_st (ls : List D) (_m _k : Nat) (w : Int) : (Int × Int × List D) → Store := fun ⟨_, _, out⟩ => [mkDyn .one out, boxL ls, boxW w]
def de_step (ls : List D) (m k : Nat) (w : Int) : (Int × Int × List D) → T ((Int × Int × List D) ⊕ LOut) := fun ⟨j, i, out⟩ =>
  .chk (!decide (j < (↑k : Int)) || decide (0 ≤ j) && (Nat.beq (List.length out) m && (decide (0 + Int.toNat j < List.length out) && (okE (Ek.int IntKind.i64) (nthD out (0 + Int.toNat j)) && (no_pre ls (D.getI (nthD out (0 + Int.toNat j))) && (D.getI (nthD (D.getL (nthD ls (Int.toNat (D.getI (nthD out (0 + Int.toNat j)))))) 3) != w || decide (0 ≤ i) && (decide (i < (↑k : Int)) && (decide (0 + Int.toNat i < List.length out) && Sh.eqb (D.shape (nthD out (0 + Int.toNat i))) Sh.one)))))))) (
   .br (!decide (j < (↑k : Int))) (.leaf (.inr ((some 0), mkF 42 [(0, AV.sref Sh.one 0 m [] 0 k), (5, .dat (.int .i64 i))], [{ sh := Sh.arr Sh.one 0, dyn := true, frz := false, v := .dat (.arr Sh.one out) }, { sh := Sh.one, dyn := false, frz := false, v := .dat (.slc (s23) ls) }, { sh := Sh.one, dyn := false, frz := false, v := .dat (.int .i64 w) }]))) (.leaf (.inl ((IntKind.wrap IntKind.i64 (j + 1)), (bif D.getI (nthD (D.getL (nthD ls (Int.toNat (D.getI (nthD out (0 + Int.toNat j)))))) 3) != w then i else IntKind.wrap IntKind.i64 (i + 1)), (bif D.getI (nthD (D.getL (nthD ls (Int.toNat (D.getI (nthD out (0 + Int.toNat j)))))) 3) != w then out else List.set out (0 + Int.toNat i) (D.int .i64 (D.getI (nthD out (0 + Int.toNat j)))))))))
theorem de_round (lp : Loops) (ls : List D) (m k : Nat) (w : Int) (j i : Int) (out : List D) (K : Kt) : oneRound (envOf tab [(19, C_no), (32, C_ix)] [32] lp []) Tryd.f20 0 (3) (mkF 42 [(0, .sref .one 0 m [] 0 k), (1, .fn (.func 19) [] [.ptr .one 1 0 [], .ptr .one 2 0 []]), (5, .dat (.int .i64 i)), (6, .dat (.int .i64 j))]) ([mkDyn .one out, boxL ls, boxW w]) K =
  (bif decide (j < (↑k : Int)) then
   (bif decide (0 ≤ j) then
    (bif decide (j < (↑k : Int)) then
     (bif Nat.beq (List.length out) m && true && true then
      (bif decide (0 + Int.toNat j < List.length out) then
       (bif okE (Ek.int IntKind.i64) (nthD out (0 + Int.toNat j)) then
        (bif no_pre ls (D.getI (nthD out (0 + Int.toNat j))) then
         (bif !D.getI (nthD (D.getL (nthD ls (Int.toNat (D.getI (nthD out (0 + Int.toNat j)))))) 3) != w then
          (bif decide (0 ≤ i) then
           (bif decide (i < (↑k : Int)) then
            (bif Nat.beq (List.length out) m && true && true && true then
             (bif decide (0 + Int.toNat i < List.length out) then
              (bif Sh.eqb (D.shape (nthD out (0 + Int.toNat i))) Sh.one then K (Exit.normal) (mkF 42 [(0, AV.sref Sh.one 0 m [] 0 k), (1, AV.fn (Fn.func 19) [] [AV.ptr Sh.one 1 0 [], AV.ptr Sh.one 2 0 []]), (5, .dat (.int .i64 (IntKind.wrap IntKind.i64 (i + 1)))), (6, .dat (.int .i64 (IntKind.wrap IntKind.i64 (j + 1)))), (20, .dat (.int .i64 j)), (21, .dat (.int .i64 (IntKind.wrap IntKind.i64 (j + 1))))]) ([{ sh := Sh.arr Sh.one 0, dyn := true, frz := false, v := .dat (.arr Sh.one (List.set out (0 + Int.toNat i) (D.int .i64 (D.getI (nthD out (0 + Int.toNat j)))))) }, { sh := Sh.one, dyn := false, frz := false, v := .dat (.slc (s23) ls) }, { sh := Sh.one, dyn := false, frz := false, v := .dat (.int .i64 w) }]) else none) else none) else none) else none) else none) else K (Exit.normal) (mkF 42 [(0, AV.sref Sh.one 0 m [] 0 k), (1, AV.fn (Fn.func 19) [] [AV.ptr Sh.one 1 0 [], AV.ptr Sh.one 2 0 []]), (5, .dat (.int .i64 i)), (6, .dat (.int .i64 (IntKind.wrap IntKind.i64 (j + 1)))), (20, .dat (.int .i64 j)), (21, .dat (.int .i64 (IntKind.wrap IntKind.i64 (j + 1))))]) ([{ sh := Sh.arr Sh.one 0, dyn := true, frz := false, v := .dat (.arr Sh.one out) }, { sh := Sh.one, dyn := false, frz := false, v := .dat (.slc (s23) ls) }, { sh := Sh.one, dyn := false, frz := false, v := .dat (.int .i64 w) }])) else none) else none) else none) else none) else none) else none) else K (Exit.exit 0) (mkF 42 [(0, AV.sref Sh.one 0 m [] 0 k), (5, .dat (.int .i64 i))]) ([{ sh := Sh.arr Sh.one 0, dyn := true, frz := false, v := .dat (.arr Sh.one out) }, { sh := Sh.one, dyn := false, frz := false, v := .dat (.slc (s23) ls) }, { sh := Sh.one, dyn := false, frz := false, v := .dat (.int .i64 w) }])) := by kernel_rfl
theorem de_hr (lp : Loops) (ls : List D) (m k : Nat) (w : Int) : ∀ (sA : (Int × Int × List D)) (K : Kt) (N : (Int × Int × List D) → Option Res), (∀ sB fr' σ', cleanF (liveAt Tryd.f20 0) 0 fr' = de_fr ls m k w sB → trim (3) (de_fr ls m k w sB) σ' = de_st ls m k w sB → K .normal fr' σ' = N sB) →
    oneRound (envOf tab [(19, C_no), (32, C_ix)] [32] lp []) Tryd.f20 0 (3) (de_fr ls m k w sA) (de_st ls m k w sA) K = (de_step ls m k w sA).k (LK K N) := by
  intro sA K N hN
  obtain ⟨j, i, out⟩ := sA
  refine (de_round lp ls m k w j i out K).trans ?_
  show _ = T.k ((
  .chk (!decide (j < (↑k : Int)) || decide (0 ≤ j) && (Nat.beq (List.length out) m && (decide (0 + Int.toNat j < List.length out) && (okE (Ek.int IntKind.i64) (nthD out (0 + Int.toNat j)) && (no_pre ls (D.getI (nthD out (0 + Int.toNat j))) && (D.getI (nthD (D.getL (nthD ls (Int.toNat (D.getI (nthD out (0 + Int.toNat j)))))) 3) != w || decide (0 ≤ i) && (decide (i < (↑k : Int)) && (decide (0 + Int.toNat i < List.length out) && Sh.eqb (D.shape (nthD out (0 + Int.toNat i))) Sh.one)))))))) (
   .br (!decide (j < (↑k : Int))) (.leaf (.inr ((some 0), mkF 42 [(0, AV.sref Sh.one 0 m [] 0 k), (5, .dat (.int .i64 i))], [{ sh := Sh.arr Sh.one 0, dyn := true, frz := false, v := .dat (.arr Sh.one out) }, { sh := Sh.one, dyn := false, frz := false, v := .dat (.slc (s23) ls) }, { sh := Sh.one, dyn := false, frz := false, v := .dat (.int .i64 w) }]))) (.leaf (.inl ((IntKind.wrap IntKind.i64 (j + 1)), (bif D.getI (nthD (D.getL (nthD ls (Int.toNat (D.getI (nthD out (0 + Int.toNat j)))))) 3) != w then i else IntKind.wrap IntKind.i64 (i + 1)), (bif D.getI (nthD (D.getL (nthD ls (Int.toNat (D.getI (nthD out (0 + Int.toNat j)))))) 3) != w then out else List.set out (0 + Int.toNat i) (D.int .i64 (D.getI (nthD out (0 + Int.toNat j)))))))))) : T ((Int × Int × List D) ⊕ LOut)) (LK K N)
  generalize (decide (0 + Int.toNat i < List.length out)) = z0
  generalize (decide (0 + Int.toNat j < List.length out)) = z1
  generalize (D.getI (nthD (D.getL (nthD ls (Int.toNat (D.getI (nthD out (0 + Int.toNat j)))))) 3) != w) = z2
  generalize (Sh.eqb (D.shape (nthD out (0 + Int.toNat i))) Sh.one) = z3
  generalize (no_pre ls (D.getI (nthD out (0 + Int.toNat j)))) = z4
  generalize (okE (Ek.int IntKind.i64) (nthD out (0 + Int.toNat j))) = z5
  generalize (decide (0 ≤ i)) = z6
  generalize (decide (0 ≤ j)) = z7
  generalize (decide (j < (↑k : Int))) = z8
  generalize (decide (i < (↑k : Int))) = z9
  generalize (Nat.beq (List.length out) m) = z10
  cases z8 with
  | true =>
   cases z7 with
   | true =>
    cases z10 with
    | true =>
     cases z1 with
     | true =>
      cases z5 with
      | true =>
       cases z4 with
       | true =>
        cases z2 with
        | true =>
         exact hN _ _ _ (by kernel_rfl) (by kernel_rfl)
        | false =>
         cases z6 with
         | true =>
          cases z9 with
          | true =>
           cases z0 with
           | true =>
            cases z3 with
            | true =>
             exact hN _ _ _ (by kernel_rfl) (by kernel_rfl)
            | false =>
             rfl
           | false =>
            rfl
          | false =>
           rfl
         | false =>
          rfl
       | false =>
        rfl
      | false =>
       rfl
     | false =>
      rfl
    | false =>
     rfl
   | false =>
    rfl
  | false =>
   rfl
theorem de_enter (ls : List D) (m k : Nat) (w : Int) (j i : Int) (out : List D) (fr : Frame') (hl : Nat.beq fr.length 42 = true) (g0 : fr.getD 0 .undef = AV.sref Sh.one 0 m [] 0 k) (g1 : fr.getD 1 .undef = AV.fn (Fn.func 19) [] [AV.ptr Sh.one 1 0 [], AV.ptr Sh.one 2 0 []]) (g5 : fr.getD 5 .undef = .dat (.int .i64 i)) (g6 : fr.getD 6 .undef = .dat (.int .i64 j)) : cleanF (liveAt Tryd.f20 0) 0 fr = de_fr ls m k w (j, i, out) := by
  have e : liveAt Tryd.f20 0 = [1, 6, 0, 5] := by kernel_rfl
  rw [clean_mk (Nat.eq_of_beq_eq_true hl), e]
  show mkF 42 [(1, fr.getD 1 .undef), (6, fr.getD 6 .undef), (0, fr.getD 0 .undef), (5, fr.getD 5 .undef)] = _
  rw [g1, g6, g0, g5]
  kernel_rfl
theorem de_closed (ls : List D) (m k : Nat) (w : Int) (j i : Int) (out : List D) (hc : (out.any (noP ls w) && (decide (i = (out.findIdx (noP ls w) : Nat)) && (decide (j = ((out.findIdx (noP ls w) + 1 : Nat) : Int)) && (Nat.beq m out.length && (Nat.beq k out.length && okNo ls out))))) = true) :
    ∃ z, (iterT (de_step ls m k w) z (j, i, out)).run = T.run (.leaf (some 0, mkF 42 [(0, .sref .one 0 m [] 0 k), (5, .dat (.int .i64 (keepTo (noP ls w) out out.length).length))], [mkDyn .one (shiftTo (noP ls w) out out.length), boxL ls, boxW w])) := by
  simp only [Bool.and_eq_true, decide_eq_true_eq] at hc
  obtain ⟨ha, rfl, rfl, h1, h2, h3⟩ := hc
  obtain rfl := Nat.eq_of_beq_eq_true h1
  obtain rfl := Nat.eq_of_beq_eq_true h2
  have hf := findIdx_lt ha
  obtain ⟨g1, g2⟩ := shift_first (noP ls w) (out.findIdx (noP ls w)) (Nat.le_of_lt hf) (fun t ht => findIdx_before ht (by omega))
  have g3 := findIdx_at ha
  have s1 : shiftTo (noP ls w) out (out.findIdx (noP ls w) + 1) = out := by
    show (bif noP ls w (nthD out (out.findIdx (noP ls w))) then _ else _) = _
    rw [g3]; exact g1
  have s2 : (keepTo (noP ls w) out (out.findIdx (noP ls w) + 1)).length = out.findIdx (noP ls w) := by
    rw [keep_succ _ hf, g3]; exact g2
  have key := iter_rangeFrom (step := de_step ls out.length out.length w) (a := out.findIdx (noP ls w) + 1) (n := out.length) (o := (some 0, mkF 42 [(0, .sref .one 0 out.length [] 0 out.length), (5, .dat (.int .i64 (keepTo (noP ls w) out out.length).length))], [mkDyn .one (shiftTo (noP ls w) out out.length), boxL ls, boxW w]))
    (fun t => (((keepTo (noP ls w) out t).length : Int), shiftTo (noP ls w) out t)) (by omega) (fun t h4 h5 => ?_) ?_
  · rw [s1, s2] at key
    exact key
  · obtain ⟨q1, q2, q3⟩ := okNo_nth h3 h5
    have hl := shift_len (noP ls w) out t
    have hn := shift_nth (noP ls w) out t t (Nat.le_refl _)
    have hk := keep_len (noP ls w) out t
    have hsh : Sh.eqb (D.shape (nthD (shiftTo (noP ls w) out t) (keepTo (noP ls w) out t).length)) Sh.one = true := by
      have hall : out.all (okE (.int .i64)) = true := by
        unfold okNo at h3
        simp only [Bool.and_eq_true] at h3
        rw [List.all_eq_true]
        intro d hd
        have := List.all_eq_true.1 h3.1 d hd
        simp only [Bool.and_eq_true] at this
        exact this.1
      have : okE (.int .i64) (nthD (shiftTo (noP ls w) out t) (keepTo (noP ls w) out t).length) = true := allE_nth (shift_all _ _ hall t (by omega)) (by omega)
      obtain ⟨z, hz⟩ := okE_int this
      rw [hz]; rfl
    obtain ⟨z, hz⟩ := okE_int q1
    unfold de_step
    simp only [decide_eq_true (show (t : Int) < (out.length : Int) by omega), decide_eq_true (show (0 : Int) ≤ (t : Int) by omega), Int.toNat_natCast, Nat.zero_add, hl, hn, decide_eq_true h5, q1, q2, beq_self, hsh, decide_eq_true (show (0 : Int) ≤ ((keepTo (noP ls w) out t).length : Int) by omega), decide_eq_true (show ((keepTo (noP ls w) out t).length : Int) < (out.length : Int) by omega), decide_eq_true (show (keepTo (noP ls w) out t).length < out.length by omega), wrap_succ (show t < 2 ^ 62 by omega), wrap_succ (show (keepTo (noP ls w) out t).length < 2 ^ 62 by omega), Bool.not_true, Bool.and_true, Bool.or_true, T.run_br, T.run_chk, T.run_leaf, cond_true, cond_false]
    rw [keep_succ _ h5]
    show _ = some (Sum.inl (((t + 1 : Nat) : Int), (((bif noP ls w (nthD out t) then keepTo (noP ls w) out t else keepTo (noP ls w) out t ++ [nthD out t]).length : Nat) : Int), (bif noP ls w (nthD out t) then shiftTo (noP ls w) out t else (shiftTo (noP ls w) out t).set (keepTo (noP ls w) out t).length (nthD out t))))
    have e : noP ls w (nthD out t) = (D.getI (nthD (D.getL (nthD ls (D.getI (nthD out t)).toNat)) 3) != w) := rfl
    rw [e]
    cases (D.getI (nthD (D.getL (nthD ls (D.getI (nthD out t)).toNat)) 3) != w) with
    | true => rfl
    | false =>
      rw [hz]
      simp only [cond_false, List.length_append, List.length_singleton]
      rfl
  · have hl := shift_len (noP ls w) out out.length
    unfold de_step
    simp only [decide_eq_false (show ¬ (out.length : Int) < (out.length : Int) by omega)]
    rfl
def L_de : Frame' → Store → T (Exit × Frame' × Store) := fun fr σ => match fr.getD 0 .undef, fr.getD 1 .undef, fr.getD 5 .undef, fr.getD 6 .undef, σ with
  | AV.sref Sh.one 0 m [] 0 k, AV.fn (Fn.func 19) [] [AV.ptr Sh.one 1 0 [], AV.ptr Sh.one 2 0 []], AV.dat (D.int IntKind.i64 i), AV.dat (D.int IntKind.i64 j), [{ sh := Sh.arr Sh.one 0, dyn := true, frz := false, v := AV.dat (D.arr Sh.one out) }, { sh := Sh.one, dyn := false, frz := false, v := AV.dat (D.slc (Sh.agg [Sh.one, Sh.one, Sh.one, Sh.one, Sh.one]) ls) }, { sh := Sh.one, dyn := false, frz := false, v := AV.dat (D.int IntKind.i64 w) }] => .chk (Nat.beq fr.length 42 && (out.any (noP ls w) && (decide (i = (out.findIdx (noP ls w) : Nat)) && (decide (j = ((out.findIdx (noP ls w) + 1 : Nat) : Int)) && (Nat.beq m out.length && (Nat.beq k out.length && okNo ls out)))))) (T.bind (.leaf (some 0, mkF 42 [(0, .sref .one 0 m [] 0 k), (5, .dat (.int .i64 (keepTo (noP ls w) out out.length).length))], [mkDyn .one (shiftTo (noP ls w) out out.length), boxL ls, boxW w])) fun o => .leaf (outEx o.1, o.2.1, o.2.2))
  | _, _, _, _, _ => .fail
theorem de_sem (lp : Loops) : ∀ fr σ p, (L_de fr σ).run = some p → ∀ (K : Kt) r, K p.1 p.2.1 p.2.2 = some r → ∃ n, loopRun (envOf tab [(19, C_no), (32, C_ix)] [32] lp []) Tryd.f20 0 σ.length n (cleanF (liveAt Tryd.f20 0) 0 fr) σ K = some r := by
  intro fr σ p h K r hK
  unfold L_de at h
  split at h
  · rename_i m k i j out ls w g0 g1 g5 g6
    obtain ⟨hc, h'⟩ := T.chk_some h
    rw [Bool.and_eq_true] at hc
    obtain ⟨hl, hc⟩ := hc
    obtain ⟨o, ho, h'⟩ := T.bind_some h'
    have hp := T.leaf_some h'
    subst hp
    obtain ⟨nF, hn⟩ : ∃ nF, (iterT (de_step ls m k w) nF ((j, i, out))).run = T.run (.leaf (some 0, mkF 42 [(0, .sref .one 0 m [] 0 k), (5, .dat (.int .i64 (keepTo (noP ls w) out out.length).length))], [mkDyn .one (shiftTo (noP ls w) out out.length), boxL ls, boxW w])) := de_closed ls m k w j i out hc
    rw [ho] at hn
    refine ⟨nF, ?_⟩
    have he : cleanF (liveAt Tryd.f20 0) 0 fr = de_fr ls m k w ((j, i, out)) := de_enter ls m k w _ _ _ fr hl g0 g1 g5 g6
    refine (iter_ok (base := 3) (de_hr lp ls m k w) K nF ((j, i, out)) _ _ (by rw [clean_clean]; exact he) (by kernel_rfl)).trans ?_
    rw [T.k_run hn]
    exact hK
  · simp [T.run_fail] at h
theorem de_loopOk {k : Nat} (lp : Loops) (hk : Loops.get lp 5 = some L_de) : LoopOkN Tryd.prog k (envOf tab [(19, C_no), (32, C_ix)] [32] lp []) (loopAt Tryd.f20 0).1 (loopAt Tryd.f20 0).2 := loop_okN (L := L_de) (by kernel_rfl) hk (de_sem lp)
def del_t1 (ls : List D) (out : List D) (w : Int) := List.length (keepTo (noP ls w) out (List.length out))
def del_t4 (ls : List D) (out : List D) (w : Int) := shiftTo (noP ls w) out (List.length out)
def del_t3 (ls : List D) (out : List D) (k : Nat) (w : Int) := List.replicate (k - Int.toNat (↑(del_t1 ls out w) : Int)) (D.int .i64 0)
def del_t0 (ls : List D) (out : List D) (k : Nat) (w : Int) := List.take (0 + Int.toNat (↑(del_t1 ls out w) : Int)) (del_t4 ls out w) ++ List.take (min (List.length (del_t3 ls out k w)) (k - Int.toNat (↑(del_t1 ls out w) : Int))) (del_t3 ls out k w) ++ List.drop (0 + Int.toNat (↑(del_t1 ls out w) : Int) + min (List.length (del_t3 ls out k w)) (k - Int.toNat (↑(del_t1 ls out w) : Int))) (del_t4 ls out w)
def del_v0 (ls : List D) (out : List D) (k : Nat) (w : Int) : List D := bif ix_v0 ls out w == (-1 : Int) then seg out 0 k else seg (del_t0 ls out k w) 0 (Int.toNat (↑(del_t1 ls out w) : Int) - 0)
def del_v1 (ls : List D) (out : List D) (k : Nat) (w : Int) : List D := bif ix_v0 ls out w == (-1 : Int) then out else List.take (0 + Int.toNat (↑(del_t1 ls out w) : Int)) (del_t4 ls out w) ++ List.take (min (List.length (del_t3 ls out k w)) (k - Int.toNat (↑(del_t1 ls out w) : Int))) (del_t3 ls out k w) ++ List.drop (0 + Int.toNat (↑(del_t1 ls out w) : Int) + min (List.length (del_t3 ls out k w)) (k - Int.toNat (↑(del_t1 ls out w) : Int))) (del_t4 ls out w)
def del_t2 (ls : List D) (out : List D) (k : Nat) (w : Int) (m : Nat) := decide (ix_v0 ls out w = (↑(List.findIdx (noP ls w) out) : Int)) && (decide (IntKind.wrap IntKind.i64 (ix_v0 ls out w + 1) = (↑(List.findIdx (noP ls w) out + 1) : Int)) && (Nat.beq m (List.length out) && (Nat.beq k (List.length out) && okNo ls out)))
def del_pre (ls : List D) (out : List D) (m : Nat) (k : Nat) (w : Int) : Bool := ix_pre ls out m k && bif ix_v0 ls out w == (-1 : Int) then Nat.beq (List.length out) m else List.any out (noP ls w) && (del_t2 ls out k w m) && (decide (Int.toNat (↑(del_t1 ls out w) : Int) ≤ k) && decide (k ≤ k) && (Nat.beq (List.length (del_t4 ls out w)) m && true && true && fits Sh.one (del_t3 ls out k w) && (decide (Int.toNat (↑(del_t1 ls out w) : Int) ≤ k) && Nat.beq (List.length (del_t0 ls out k w)) m)))
def C_del : FunT := fun args σ => match args, σ with
  | [AV.sref Sh.one 0 m [] 0 k, AV.fn (Fn.func 19) [] [AV.ptr Sh.one 1 0 [], AV.ptr Sh.one 2 0 []]], [{ sh := Sh.arr Sh.one 0, dyn := true, frz := false, v := AV.dat (D.arr Sh.one out) }, { sh := Sh.one, dyn := false, frz := false, v := AV.dat (D.slc (Sh.agg [Sh.one, Sh.one, Sh.one, Sh.one, Sh.one]) ls) }, { sh := Sh.one, dyn := false, frz := false, v := AV.dat (D.int IntKind.i64 w) }] => .chk ((del_pre ls out m k w)) (.leaf ([AV.dat (D.slc Sh.one (del_v0 ls out k w))], [{ sh := Sh.arr Sh.one 0, dyn := true, frz := true, v := AV.dat (D.arr Sh.one (del_v1 ls out k w)) }, { sh := Sh.one, dyn := false, frz := false, v := AV.dat (D.slc (s23) ls) }, { sh := Sh.one, dyn := false, frz := false, v := AV.dat (D.int IntKind.i64 w) }]))
  | _, _ => .fail
theorem del_raw0 (ls out : List D) (m k : Nat) (w : Int) : runF (envOf tab [(19, C_no), (32, C_ix)] [32] [(5, L_de)] []) true Tryd.f20 [.sref .one 0 m [] 0 k, .fn (.func 19) [] [.ptr .one 1 0 [], .ptr .one 2 0 []]] [mkDyn .one out, boxL ls, boxW w] =
  (bif ix_pre ls out m k then
   (bif ix_v0 ls out w == (-1 : Int) then
    (bif Nat.beq (List.length out) m then some ([.dat (.slc Sh.one (seg out 0 k))], [{ sh := Sh.arr Sh.one 0, dyn := true, frz := true, v := .dat (.arr Sh.one out) }, { sh := Sh.one, dyn := false, frz := false, v := .dat (.slc (s23) ls) }, { sh := Sh.one, dyn := false, frz := false, v := .dat (.int .i64 w) }]) else none) else
    (bif List.any out (noP ls w) && (del_t2 ls out k w m) then
     (bif decide (Int.toNat (↑(del_t1 ls out w) : Int) ≤ k) && decide (k ≤ k) then
      (bif Nat.beq (List.length (del_t4 ls out w)) m && true && true && fits Sh.one (del_t3 ls out k w) then
       (bif decide (Int.toNat (↑(del_t1 ls out w) : Int) ≤ k) then
        (bif Nat.beq (List.length (del_t0 ls out k w)) m then some ([.dat (.slc Sh.one (seg (del_t0 ls out k w) 0 (Int.toNat (↑(del_t1 ls out w) : Int) - 0)))], [{ sh := Sh.arr Sh.one 0, dyn := true, frz := true, v := .dat (.arr Sh.one (del_t0 ls out k w)) }, { sh := Sh.one, dyn := false, frz := false, v := .dat (.slc (s23) ls) }, { sh := Sh.one, dyn := false, frz := false, v := .dat (.int .i64 w) }]) else none) else none) else none) else none) else none)) else none) := by kernel_rfl
theorem del_case0 (ls out : List D) (m k : Nat) (w : Int) : runF (envOf tab [(19, C_no), (32, C_ix)] [32] [(5, L_de)] []) true Tryd.f20 [.sref .one 0 m [] 0 k, .fn (.func 19) [] [.ptr .one 1 0 [], .ptr .one 2 0 []]] [mkDyn .one out, boxL ls, boxW w] = FunT.run C_del [.sref .one 0 m [] 0 k, .fn (.func 19) [] [.ptr .one 1 0 [], .ptr .one 2 0 []]] [mkDyn .one out, boxL ls, boxW w] := (del_raw0 ls out m k w).trans (by
  show _ = (cond (ix_pre ls out m k && bif ix_v0 ls out w == (-1 : Int) then Nat.beq (List.length out) m else List.any out (noP ls w) && (del_t2 ls out k w m) && (decide (Int.toNat (↑(del_t1 ls out w) : Int) ≤ k) && decide (k ≤ k) && (Nat.beq (List.length (del_t4 ls out w)) m && true && true && fits Sh.one (del_t3 ls out k w) && (decide (Int.toNat (↑(del_t1 ls out w) : Int) ≤ k) && Nat.beq (List.length (del_t0 ls out k w)) m)))) (some (([.dat (.slc Sh.one (bif ix_v0 ls out w == (-1 : Int) then seg out 0 k else seg (del_t0 ls out k w) 0 (Int.toNat (↑(del_t1 ls out w) : Int) - 0)))], [{ sh := Sh.arr Sh.one 0, dyn := true, frz := true, v := .dat (.arr Sh.one (bif ix_v0 ls out w == (-1 : Int) then out else List.take (0 + Int.toNat (↑(del_t1 ls out w) : Int)) (del_t4 ls out w) ++ List.take (min (List.length (del_t3 ls out k w)) (k - Int.toNat (↑(del_t1 ls out w) : Int))) (del_t3 ls out k w) ++ List.drop (0 + Int.toNat (↑(del_t1 ls out w) : Int) + min (List.length (del_t3 ls out k w)) (k - Int.toNat (↑(del_t1 ls out w) : Int))) (del_t4 ls out w))) }, { sh := Sh.one, dyn := false, frz := false, v := .dat (.slc (s23) ls) }, { sh := Sh.one, dyn := false, frz := false, v := .dat (.int .i64 w) }]) : Res)) none)
  generalize (Nat.beq (List.length (del_t0 ls out k w)) m) = z0
  generalize (List.any out (noP ls w) && (del_t2 ls out k w m)) = z1
  generalize (Nat.beq (List.length (del_t4 ls out w)) m && true && true && fits Sh.one (del_t3 ls out k w)) = z2
  generalize (decide (Int.toNat (↑(del_t1 ls out w) : Int) ≤ k) && decide (k ≤ k)) = z3
  generalize (decide (Int.toNat (↑(del_t1 ls out w) : Int) ≤ k)) = z4
  generalize (ix_v0 ls out w == (-1 : Int)) = z5
  generalize (ix_pre ls out m k) = z6
  generalize (Nat.beq (List.length out) m) = z7
  cases z6 with
  | true =>
   cases z5 with
   | true =>
    cases z7 with
    | true =>
     rfl
    | false =>
     rfl
   | false =>
    cases z1 with
    | true =>
     cases z3 with
     | true =>
      cases z2 with
      | true =>
       cases z4 with
       | true =>
        cases z0 with
        | true =>
         rfl
        | false =>
         rfl
       | false =>
        rfl
      | false =>
       rfl
     | false =>
      rfl
    | false =>
     rfl
  | false =>
   rfl
  )
theorem cdel_ok : FunOk Tryd.prog 20 (FunT.run C_del) := by
  refine fun_ok (E := envOf tab [(19, C_no), (32, C_ix)] [32] [(5, L_de)] []) (fz := true) (fn := Tryd.f20) (envOf_ok progOk (.cons cno_ok (.cons cix_ok (.nil _)))) (by kernel_rfl) (by kernel_rfl) (loops_one (by kernel_rfl) (de_loopOk _ rfl)) ?_
  intro args σ r h
  unfold C_del at h
  split at h
  · exact (del_case0 _ _ _ _ _).trans h
  · simp [T.run_fail] at h
end Go.Proofs.YtggellmbhgkckaaDoor
