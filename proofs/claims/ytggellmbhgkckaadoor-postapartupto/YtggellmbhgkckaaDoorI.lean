/- Seat 17: PostApart's run. -/
import Derived.Test.YtggellmbhgkckaaDoorH
namespace Go.Proofs.YtggellmbhgkckaaDoor
open Go.AX
set_option maxRecDepth 100000
theorem filter_col (p q : Nat → Bool) (f : D → Bool) (hf : ∀ i : Nat, f (.int .i64 (i : Int)) = q i) : ∀ n, (colTo p n).filter f = colTo (fun i => p i && q i) n
  | 0 => rfl
  | n + 1 => by
    have ih := filter_col p q f hf n
    have e1 : colTo p (n + 1) = bif p n then colTo p n ++ [D.int .i64 (n : Int)] else colTo p n := rfl
    have e2 : colTo (fun i => p i && q i) (n + 1) = bif p n && q n then colTo (fun i => p i && q i) n ++ [D.int .i64 (n : Int)] else colTo (fun i => p i && q i) n := rfl
    rw [e1, e2]
    cases p n with
    | false => exact ih
    | true =>
      rw [cond_true, List.filter_append, ih]
      have e3 : [D.int .i64 (n : Int)].filter f = bif q n then [D.int .i64 (n : Int)] else [] := by
        rw [List.filter_cons, hf]
        cases q n <;> rfl
      rw [e3]
      cases q n <;> simp
theorem of_keep (ls : List D) (w : Int) : ((usTo ls).filter fun d => !noP ls w d) = ofTo ls w := by
  unfold usTo ofTo
  refine (filter_col _ (fun i => fI (nthD ls i) 3 == w) _ (fun i => ?_) _).trans rfl
  show (!(fI (nthD ls ((i : Int)).toNat) 3 != w)) = _
  rw [Int.toNat_natCast]
  show (!(!(fI (nthD ls i) 3 == w))) = _
  rw [Bool.not_not]
theorem usTo_no {ls : List D} (h1 : ls.all (okE k23) = true) (hl : ls.length ≤ 1048576) : okNo ls (usTo ls) = true := by
  have hus : (usTo ls).length ≤ ls.length := colTo_len (fun i => fU (nthD ls i)) ls.length
  have hpl : okPl ls.length (usTo ls) = true := okPl_col (fun i => fU (nthD ls i)) ls.length ls.length (Nat.le_refl _)
  unfold okNo
  rw [decide_eq_true (by omega), Bool.and_true, List.all_eq_true]
  intro d hd
  have hq := List.all_eq_true.1 hpl d hd
  simp only [Bool.and_eq_true, decide_eq_true_eq] at hq
  have ht : (D.getI d).toNat < ls.length := by omega
  unfold no_pre
  rw [hq.1, decide_eq_true hq.2.1, decide_eq_true ht, allE_nth h1 ht]; rfl
theorem of_is {ls : List D} (h1 : ls.all (okE k23) = true) (hl : ls.length ≤ 1048576) (w : Int) : of_pre ls w = true ∧ del_v0 ls (usTo ls) (usTo ls).length w = ofTo ls w := by
  have hno := usTo_no h1 hl
  have hus : (usTo ls).length ≤ ls.length := colTo_len (fun i => fU (nthD ls i)) ls.length
  have hso : slotsO_pre ls = true := by
    unfold slotsO_pre
    have hT : okT ls = true := by unfold okT; rw [h1, decide_eq_true (by omega)]; rfl
    rw [hT, decide_eq_true rfl]; rfl
  have hix : ix_pre ls (usTo ls) (usTo ls).length (usTo ls).length = true := by
    unfold ix_pre
    rw [hno, decide_eq_true rfl, beq_self]; rfl
  unfold of_pre del_pre del_v0
  simp only [del_t0, del_t1, del_t2, del_t3, del_t4]
  rw [iof_ok h1 hl, hso, hix]
  cases ha : (usTo ls).any (noP ls w) with
  | false =>
    have e : ix_v0 ls (usTo ls) w = -1 := by unfold ix_v0; rw [ha]; rfl
    rw [e, seg_full, ← of_keep, filter_none ha, beq_self]
    exact ⟨rfl, rfl⟩
  | true =>
    have e : ix_v0 ls (usTo ls) w = ((List.findIdx (noP ls w) (usTo ls) : Nat) : Int) := by unfold ix_v0; rw [ha]; rfl
    have hf := findIdx_lt ha
    have hk := keep_all (noP ls w) (usTo ls)
    have hs := shift_take (noP ls w) (o := usTo ls) (usTo ls).length (Nat.le_refl _)
    have hsl := shift_len (noP ls w) (usTo ls) (usTo ls).length
    have hkl := keep_len (noP ls w) (usTo ls) (usTo ls).length
    have e1 : ((List.findIdx (noP ls w) (usTo ls) : Int) == -1) = false := by simp
    rw [e, e1, wrap_succ (show List.findIdx (noP ls w) (usTo ls) < 2 ^ 62 by omega)]
    rw [hk] at hs hkl
    simp only [hk, Int.toNat_natCast, Nat.zero_add, Nat.sub_zero, hno, hsl, beq_self, cond_false, Bool.true_and, Bool.and_true, decide_eq_true hkl, decide_true, List.length_replicate, Nat.min_self, List.take_replicate]
    rw [of_keep] at hs hkl ⊢
    refine ⟨?_, ?_⟩
    · have hfit : fits Sh.one (List.replicate ((usTo ls).length - (ofTo ls w).length) (D.int .i64 0)) = true := by
        rw [fits_one_iff]
        intro d hd
        rw [List.eq_of_mem_replicate hd]; rfl
      rw [hfit]
      simp [hsl]
      omega
    · rw [hs, seg_take, List.append_assoc, List.take_left]
theorem col_up (p : Nat → Bool) : ∀ n, (upB (colTo p n) && (colTo p n).all fun d => decide (D.getI d < (n : Int))) = true
  | 0 => rfl
  | n + 1 => by
    have ih := col_up p n
    rw [Bool.and_eq_true] at ih
    obtain ⟨i1, i2⟩ := ih
    have e1 : colTo p (n + 1) = bif p n then colTo p n ++ [D.int .i64 (n : Int)] else colTo p n := rfl
    rw [e1, Bool.and_eq_true]
    cases p n with
    | false =>
      refine ⟨i1, ?_⟩
      rw [cond_false]
      rw [List.all_eq_true] at i2 ⊢
      intro d hd
      have := of_decide_eq_true (i2 d hd)
      exact decide_eq_true (by omega)
    | true =>
      rw [cond_true]
      refine ⟨?_, ?_⟩
      · unfold upB at i1 ⊢
        rw [List.all_eq_true] at i1 ⊢
        intro j hj
        have hj := List.mem_range.1 hj
        rw [List.length_append, List.length_singleton] at hj
        have nlt : ∀ k, k < (colTo p n).length → nthD (colTo p n ++ [D.int .i64 (n : Int)]) k = nthD (colTo p n) k := fun k hk => by
          unfold nthD; rw [List.getD_eq_getElem?_getD, List.getD_eq_getElem?_getD, List.getElem?_append_left hk]
        have nle : nthD (colTo p n ++ [D.int .i64 (n : Int)]) (colTo p n).length = D.int .i64 (n : Int) := by
          unfold nthD; rw [List.getD_eq_getElem?_getD, List.getElem?_append_right (Nat.le_refl _), Nat.sub_self]; rfl
        by_cases h0 : j = 0
        · rw [decide_eq_true h0]; rfl
        · rw [decide_eq_false h0, Bool.false_or]
          rcases Nat.lt_or_ge j (colTo p n).length with hl | hl
          · rw [nlt j hl, nlt (j - 1) (by omega)]
            have := i1 j (List.mem_range.2 hl)
            rwa [decide_eq_false h0, Bool.false_or] at this
          · obtain rfl : j = (colTo p n).length := by omega
            rw [nle, nlt _ (by omega)]
            exact List.all_eq_true.1 i2 _ (nthD_mem (by omega))
      · rw [List.all_append]
        have : ((colTo p n).all fun d => decide (D.getI d < ((n + 1 : Nat) : Int))) = true := by
          rw [List.all_eq_true] at i2 ⊢
          intro d hd
          have := of_decide_eq_true (i2 d hd)
          exact decide_eq_true (by omega)
        rw [this]
        show (true && (decide ((n : Int) < ((n + 1 : Nat) : Int)) && true)) = true
        rw [decide_eq_true (by omega)]; rfl
theorem of_up (ls : List D) (w : Int) : upB (ofTo ls w) = true := by
  have := col_up (isOf ls w) ls.length
  rw [Bool.and_eq_true] at this
  exact this.1
theorem of_good {ls : List D} (w : Int) : (ofTo ls w).all (goodP ls w) = true := by
  have key : ∀ n, n ≤ ls.length → (colTo (isOf ls w) n).all (goodP ls w) = true := by
    intro n
    induction n with
    | zero => intro _; rfl
    | succ n ih =>
      intro hn
      have e1 : colTo (isOf ls w) (n + 1) = bif isOf ls w n then colTo (isOf ls w) n ++ [D.int .i64 (n : Int)] else colTo (isOf ls w) n := rfl
      rw [e1]
      cases hp : isOf ls w n with
      | false => exact ih (by omega)
      | true =>
        rw [cond_true, List.all_append, ih (by omega)]
        show (true && (goodP ls w (D.int .i64 (n : Int)) && true)) = true
        unfold goodP
        show (true && ((true && (decide (0 ≤ (n : Int)) && (decide ((n : Int) < (ls.length : Int)) && isOf ls w ((n : Int)).toNat))) && true)) = true
        rw [Int.toNat_natCast, hp, decide_eq_true (by omega), decide_eq_true (by omega)]; rfl
  exact key _ (Nat.le_refl _)
def mn (ls : List D) (w : Nat) (i : Nat) : Int := bif fU (nthD ls i) then (bif decide (fI (nthD ls i) 3 < (w : Int)) then 1 else 0) else 0
theorem mn_bd (ls : List D) (w i : Nat) : 0 ≤ mn ls w i ∧ mn ls w i ≤ 1 := by
  unfold mn
  cases fU (nthD ls i) <;> cases decide (fI (nthD ls i) 3 < (w : Int)) <;> decide
theorem right_nth {ls : List D} (h1 : ls.all (okE k23) = true) (hr : right_v0 ls = true) {i : Nat} (hi : i < ls.length) (hu : fU (nthD ls i) = true) :
    0 ≤ fI (nthD ls i) 3 ∧ fI (nthD ls i) 3 ≤ 127 := by
  have hw := right_mem hr (nthD_mem hi)
  obtain ⟨u, la, fm, to, s, hform⟩ := k23_form (allE_nth h1 hi)
  rw [hform] at hw hu ⊢
  have hu : u = true := hu
  subst hu
  have hw : (!nums_v0 la fm to || !text_v0 s) = false := hw
  rw [Bool.or_eq_false_iff, Bool.not_eq_false'] at hw
  have hw := hw.1
  unfold nums_v0 isn_v0 at hw
  simp only [Bool.and_eq_true, decide_eq_true_eq] at hw
  exact hw.2.2
theorem mn_step (ls : List D) (w : Nat) : sumR (mn ls (w + 1)) ls.length = sumR (mn ls w) ls.length + ((ofTo ls (w : Int)).length : Int) := by
  unfold ofTo
  rw [col_sum, ← sumR_add]
  refine sumR_ext fun i hi => ?_
  unfold mn isOf
  cases hu : fU (nthD ls i) with
  | false => rfl
  | true =>
    generalize fI (nthD ls i) 3 = x
    simp only [cond_true, Bool.true_and]
    by_cases h2 : x = (w : Int)
    · subst h2
      rw [decide_eq_true (show (w : Int) < ((w + 1 : Nat) : Int) by omega), decide_eq_false (show ¬ (w : Int) < (w : Int) by omega)]; simp
    · have e : (x == (w : Int)) = false := by simpa using h2
      have e2 : decide (x < ((w + 1 : Nat) : Int)) = decide (x < (w : Int)) := decide_eq_decide.2 (by omega)
      rw [e, e2]; simp
def tw_fr (ls : List D) : (Int × Int) → Frame' := fun ⟨w, n⟩ => mkF 124 [(0, .dat (.slc s23 ls)), (3, .dat (.int .i64 n)), (4, .dat (.int .i64 w))]
def tw_st (_ls : List D) : (Int × Int) → Store := fun ⟨_, _⟩ => []
def tw_step (ls : List D) : (Int × Int) → T ((Int × Int) ⊕ LOut) := fun ⟨w, n⟩ =>
  .chk (!decide (w < 128) || of_pre ls w && tiC ls (del_v0 ls (usTo ls) (List.length (usTo ls)) w) w) (
   .br (!decide (w < 128)) (.leaf (.inr ((some 0), mkF 124 [(0, .dat (.slc (s23) ls)), (3, .dat (.int .i64 n))], []))) (.leaf (.inl ((IntKind.wrap IntKind.i64 (w + 1)), (IntKind.wrap IntKind.i64 (n + (↑(List.length (del_v0 ls (usTo ls) (List.length (usTo ls)) w)) : Int)))))))
theorem tw_round (lp : Loops) (ls : List D) (w n : Int) (K : Kt) : oneRound (envOf tab SpH [] ((10, L_ti) :: lp) HH) Tryd.f4 0 (0) (mkF 124 [(0, .dat (.slc s23 ls)), (3, .dat (.int .i64 n)), (4, .dat (.int .i64 w))]) ([]) K =
  (bif decide (w < 128) then
   (bif of_pre ls w then
    (bif tiC ls (del_v0 ls (usTo ls) (List.length (usTo ls)) w) w then K (Exit.normal) (mkF 124 [(0, .dat (.slc (s23) ls)), (3, .dat (.int .i64 (IntKind.wrap IntKind.i64 (n + (↑(List.length (del_v0 ls (usTo ls) (List.length (usTo ls)) w)) : Int))))), (4, .dat (.int .i64 (IntKind.wrap IntKind.i64 (w + 1)))), (23, .dat (.int .i64 w)), (24, .dat (.int .i64 (IntKind.wrap IntKind.i64 (w + 1))))]) ([]) else none) else none) else K (Exit.exit 0) (mkF 124 [(0, .dat (.slc (s23) ls)), (3, .dat (.int .i64 n))]) ([])) := by kernel_rfl
theorem tw_hr (lp : Loops) (ls : List D) : ∀ (sA : (Int × Int)) (K : Kt) (N : (Int × Int) → Option Res), (∀ sB fr' σ', cleanF (liveAt Tryd.f4 0) 0 fr' = tw_fr ls sB → trim (0) (tw_fr ls sB) σ' = tw_st ls sB → K .normal fr' σ' = N sB) →
    oneRound (envOf tab SpH [] ((10, L_ti) :: lp) HH) Tryd.f4 0 (0) (tw_fr ls sA) (tw_st ls sA) K = (tw_step ls sA).k (LK K N) := by
  intro sA K N hN
  obtain ⟨w, n⟩ := sA
  refine (tw_round lp ls w n K).trans ?_
  show _ = T.k ((
  .chk (!decide (w < 128) || of_pre ls w && tiC ls (del_v0 ls (usTo ls) (List.length (usTo ls)) w) w) (
   .br (!decide (w < 128)) (.leaf (.inr ((some 0), mkF 124 [(0, .dat (.slc (s23) ls)), (3, .dat (.int .i64 n))], []))) (.leaf (.inl ((IntKind.wrap IntKind.i64 (w + 1)), (IntKind.wrap IntKind.i64 (n + (↑(List.length (del_v0 ls (usTo ls) (List.length (usTo ls)) w)) : Int)))))))) : T ((Int × Int) ⊕ LOut)) (LK K N)
  generalize (decide (w < 128)) = z0
  generalize (tiC ls (del_v0 ls (usTo ls) (List.length (usTo ls)) w) w) = z1
  generalize (of_pre ls w) = z2
  cases z0 with
  | true =>
   cases z2 with
   | true =>
    cases z1 with
    | true =>
     exact hN _ _ _ (by kernel_rfl) (by kernel_rfl)
    | false =>
     rfl
   | false =>
    rfl
  | false =>
   rfl
theorem tw_enter (ls : List D) (w n : Int) (fr : Frame') (hl : Nat.beq fr.length 124 = true) (g0 : fr.getD 0 .undef = .dat (.slc (s23) ls)) (g3 : fr.getD 3 .undef = .dat (.int .i64 n)) (g4 : fr.getD 4 .undef = .dat (.int .i64 w)) : cleanF (liveAt Tryd.f4 0) 0 fr = tw_fr ls (w, n) := by
  have e : liveAt Tryd.f4 0 = [4, 0, 3] := by kernel_rfl
  rw [clean_mk (Nat.eq_of_beq_eq_true hl), e]
  show mkF 124 [(4, fr.getD 4 .undef), (0, fr.getD 0 .undef), (3, fr.getD 3 .undef)] = _
  rw [g4, g0, g3]
  kernel_rfl
abbrev okR (ls : List D) : Bool := ls.all (okE k23) && (decide (ls.length ≤ 1048576) && right_v0 ls)
theorem tw_closed (ls : List D) (hc : okR ls = true) :
    ∃ z, (iterT (tw_step ls) z (0, 0)).run = T.run (.leaf (some 0, mkF 124 [(0, .dat (.slc s23 ls)), (3, .dat (.int .i64 (sumR (mn ls 128) ls.length)))], [])) := by
  simp only [okR, Bool.and_eq_true, decide_eq_true_eq] at hc
  obtain ⟨h1, hl, hr⟩ := hc
  have h0 : sumR (mn ls 0) ls.length = 0 := by
    have : sumR (mn ls 0) ls.length = sumR (fun _ => 0) ls.length := sumR_ext fun i hi => by
      unfold mn
      cases hu : fU (nthD ls i) with
      | false => rfl
      | true =>
        obtain ⟨a0, _⟩ := right_nth h1 hr hi hu
        rw [decide_eq_false (show ¬ fI (nthD ls i) 3 < ((0 : Nat) : Int) by omega)]; rfl
    rw [this, sumR_zero]
  have key := iter_range (step := tw_step ls) (n := 128) (o := (some 0, mkF 124 [(0, .dat (.slc s23 ls)), (3, .dat (.int .i64 (sumR (mn ls 128) ls.length)))], [])) (fun w => sumR (mn ls w) ls.length) (fun w hw => ?_) ?_
  · rw [h0] at key; exact key
  · obtain ⟨o1, o2⟩ := of_is h1 hl (w : Int)
    have hlen : (ofTo ls (w : Int)).length ≤ ls.length := colTo_len _ _
    have hti : tiC ls (ofTo ls (w : Int)) (w : Int) = true := by
      unfold tiC
      rw [h1, of_good, of_up, decide_eq_true hl, decide_eq_true (show (ofTo ls (w : Int)).length ≤ 1099511627776 by omega), decide_eq_true (show (0 : Int) ≤ (w : Int) by omega), decide_eq_true (show (w : Int) < 128 by omega)]; rfl
    have hb := sumR_bd (mn_bd ls (w + 1)) ls.length
    have hs := mn_step ls w
    have hwr : IntKind.wrap .i64 (sumR (mn ls w) ls.length + ((ofTo ls (w : Int)).length : Int)) = sumR (mn ls (w + 1)) ls.length := by
      rw [← hs, IntKind.wrap_i64]; omega
    unfold tw_step
    simp only [decide_eq_true (show (w : Int) < 128 by omega), o1, o2, hti, hwr, wrap_succ (show w < 2 ^ 62 by omega), Bool.not_true, Bool.false_or, Bool.and_true, T.run_br, T.run_chk, T.run_leaf, cond_true, cond_false]
  · unfold tw_step
    rfl
def L_tw : Frame' → Store → T (Exit × Frame' × Store) := fun fr σ => match fr.getD 0 .undef, fr.getD 3 .undef, fr.getD 4 .undef, σ with
  | AV.dat (D.slc (Sh.agg [Sh.one, Sh.one, Sh.one, Sh.one, Sh.one]) ls), AV.dat (D.int IntKind.i64 0), AV.dat (D.int IntKind.i64 0), [] => .chk (Nat.beq fr.length 124 && (okR ls)) (T.bind (.leaf (some 0, mkF 124 [(0, .dat (.slc s23 ls)), (3, .dat (.int .i64 (sumR (mn ls 128) ls.length)))], [])) fun o => .leaf (outEx o.1, o.2.1, o.2.2))
  | _, _, _, _ => .fail
theorem tw_sem (lp : Loops) : ∀ fr σ p, (L_tw fr σ).run = some p → ∀ (K : Kt) r, K p.1 p.2.1 p.2.2 = some r → ∃ n, loopRun (envOf tab SpH [] ((10, L_ti) :: lp) HH) Tryd.f4 0 σ.length n (cleanF (liveAt Tryd.f4 0) 0 fr) σ K = some r := by
  intro fr σ p h K r hK
  unfold L_tw at h
  split at h
  · rename_i ls g0 g3 g4
    obtain ⟨hc, h'⟩ := T.chk_some h
    rw [Bool.and_eq_true] at hc
    obtain ⟨hl, hc⟩ := hc
    obtain ⟨o, ho, h'⟩ := T.bind_some h'
    have hp := T.leaf_some h'
    subst hp
    obtain ⟨nF, hn⟩ : ∃ nF, (iterT (tw_step ls) nF ((0, 0))).run = T.run (.leaf (some 0, mkF 124 [(0, .dat (.slc s23 ls)), (3, .dat (.int .i64 (sumR (mn ls 128) ls.length)))], [])) := tw_closed ls hc
    rw [ho] at hn
    refine ⟨nF, ?_⟩
    have he : cleanF (liveAt Tryd.f4 0) 0 fr = tw_fr ls ((0, 0)) := tw_enter ls _ _ fr hl g0 g3 g4
    refine (iter_ok (base := 0) (tw_hr lp ls) K nF ((0, 0)) _ _ (by rw [clean_clean]; exact he) (by kernel_rfl)).trans ?_
    rw [T.k_run hn]
    exact hK
  · simp [T.run_fail] at h
theorem tw_loopOk {k : Nat} (lp : Loops) (hk : Loops.get lp 5 = some L_tw) : LoopOkN Tryd.prog k (envOf tab SpH [] ((10, L_ti) :: lp) HH) (loopAt Tryd.f4 0).1 (loopAt Tryd.f4 0).2 := loop_okN (L := L_tw) (by kernel_rfl) hk (tw_sem lp)
def one1 (ls : List D) (i : Nat) : Int := bif fU (nthD ls i) then 1 else 0
theorem one1_bd (ls : List D) (i : Nat) : 0 ≤ one1 ls i ∧ one1 ls i ≤ 1 := by
  unfold one1; cases fU (nthD ls i) <;> decide
theorem tx_closed (ls : List D) (n : Int) (hc : (ls.all (okE k23) && (decide (ls.length ≤ 1048576) && (decide (0 ≤ n) && decide (n ≤ 4194304)))) = true) :
    ∃ z, (iterT (tx_step ls) z (0, n)).run = T.run (.leaf (some 4, mkF 124 [(3, .dat (.int .i64 (n - sumR (one1 ls) ls.length)))], [])) := by
  simp only [Bool.and_eq_true, decide_eq_true_eq] at hc
  obtain ⟨h1, hl, n0, n1⟩ := hc
  have key := iter_range (step := tx_step ls) (n := ls.length) (o := (some 4, mkF 124 [(3, .dat (.int .i64 (n - sumR (one1 ls) ls.length)))], [])) (fun i => n - sumR (one1 ls) i) (fun i hi => ?_) ?_
  · have e : n - sumR (one1 ls) 0 = n := by show n - 0 = n; omega
    rw [e] at key; exact key
  · have hb := sumR_bd (one1_bd ls) (i + 1)
    have hb0 := sumR_bd (one1_bd ls) i
    have hs : sumR (one1 ls) (i + 1) = sumR (one1 ls) i + one1 ls i := rfl
    have hv : (bif fU (nthD ls i) then IntKind.wrap IntKind.i64 (n - sumR (one1 ls) i - 1) else n - sumR (one1 ls) i) = n - sumR (one1 ls) (i + 1) := by
      rw [hs]
      cases hu : fU (nthD ls i) with
      | false =>
        have : one1 ls i = 0 := by unfold one1; rw [hu]; rfl
        simp only [cond_false]; omega
      | true =>
        have : one1 ls i = 1 := by unfold one1; rw [hu]; rfl
        simp only [cond_true]; rw [IntKind.wrap_i64]; omega
    unfold tx_step
    simp only [decide_eq_true (show (i : Int) < (ls.length : Int) by omega), decide_eq_true (show (0 : Int) ≤ (i : Int) by omega), Int.toNat_natCast, decide_eq_true hi, allE_nth h1 hi, hv, wrap_succ (show i < 2 ^ 62 by omega), Bool.not_true, Bool.false_or, Bool.true_and, T.run_br, T.run_chk, T.run_leaf, cond_true, cond_false]
  · unfold tx_step
    simp only [decide_eq_false (show ¬ (ls.length : Int) < (ls.length : Int) by omega)]
    rfl
def L_tx : Frame' → Store → T (Exit × Frame' × Store) := fun fr σ => match fr.getD 0 .undef, fr.getD 3 .undef, fr.getD 11 .undef, σ with
  | AV.dat (D.slc (Sh.agg [Sh.one, Sh.one, Sh.one, Sh.one, Sh.one]) ls), AV.dat (D.int IntKind.i64 n), AV.dat (D.int IntKind.i64 0), [] => .chk (Nat.beq fr.length 124 && (ls.all (okE k23) && (decide (ls.length ≤ 1048576) && (decide (0 ≤ n) && decide (n ≤ 4194304))))) (T.bind (.leaf (some 4, mkF 124 [(3, .dat (.int .i64 (n - sumR (one1 ls) ls.length)))], [])) fun o => .leaf (outEx o.1, o.2.1, o.2.2))
  | _, _, _, _ => .fail
theorem tx_sem (lp : Loops) : ∀ fr σ p, (L_tx fr σ).run = some p → ∀ (K : Kt) r, K p.1 p.2.1 p.2.2 = some r → ∃ n, loopRun (envOf tab SpH [] lp HH) Tryd.f4 2 σ.length n (cleanF (liveAt Tryd.f4 2) 0 fr) σ K = some r := by
  intro fr σ p h K r hK
  unfold L_tx at h
  split at h
  · rename_i ls n g0 g3 g11
    obtain ⟨hc, h'⟩ := T.chk_some h
    rw [Bool.and_eq_true] at hc
    obtain ⟨hl, hc⟩ := hc
    obtain ⟨o, ho, h'⟩ := T.bind_some h'
    have hp := T.leaf_some h'
    subst hp
    obtain ⟨nF, hn⟩ : ∃ nF, (iterT (tx_step ls) nF ((0, n))).run = T.run (.leaf (some 4, mkF 124 [(3, .dat (.int .i64 (n - sumR (one1 ls) ls.length)))], [])) := tx_closed ls n hc
    rw [ho] at hn
    refine ⟨nF, ?_⟩
    have he : cleanF (liveAt Tryd.f4 2) 0 fr = tx_fr ls ((0, n)) := tx_enter ls _ _ fr hl g0 g3 g11
    refine (iter_ok (base := 0) (tx_hr lp ls) K nF ((0, n)) _ _ (by rw [clean_clean]; exact he) (by kernel_rfl)).trans ?_
    rw [T.k_run hn]
    exact hK
  · simp [T.run_fail] at h
theorem tx_loopOk {k : Nat} (lp : Loops) (hk : Loops.get lp 19 = some L_tx) : LoopOkN Tryd.prog k (envOf tab SpH [] lp HH) (loopAt Tryd.f4 2).1 (loopAt Tryd.f4 2).2 := loop_okN (L := L_tx) (by kernel_rfl) hk (tx_sem lp)
abbrev LLr : Loops := [(5, L_tw), (19, L_tx)]
abbrev LL : Loops := (10, L_ti) :: LLr
theorem LL_ok : ∀ x ∈ fnLoops Tryd.f4, LoopOk Tryd.prog (envOf tab SpH [] LL HH) x.1 x.2 := loops_all 3 (by kernel_rfl) (fun i hi => match i, hi with
  | 0, _ => tw_loopOk LLr rfl
  | 1, _ => ti_loopOk LL rfl
  | 2, _ => tx_loopOk LL rfl)
abbrev ap_E : Env := envOf tab SpH [] LL HH
def ap_F0 (ls : List D) : Frame' := mkF 124 [(0, .dat (.slc (s23) ls))]
def ap_T0 (_ls : List D) : Store := []
theorem ap_start (ls : List D) : runF (envOf tab SpH [] LL HH) true Tryd.f4 [.dat (.slc s23 ls)] [] = ex (Env.rebase (ap_E) 0) [2] (sqR 0 (bodyOf Tryd.f4)) [] [2] (ap_F0 ls) (ap_T0 ls) (finK (ap_E) true Tryd.f4 (callFin [] [])) := run_start (ρ := []) (args' := [.dat (.slc (s23) ls)]) (by kernel_rfl) (by kernel_rfl) (by kernel_rfl) (by kernel_rfl) (by kernel_rfl) (by kernel_rfl) (by kernel_rfl) (by kernel_rfl) (by kernel_rfl)
theorem ap_q0 (ls : List D) (K : Kt) : ex (Env.rebase (ap_E) 0) [2] (sqA (sqR 0 (bodyOf Tryd.f4))) [] [0] (ap_F0 ls) (ap_T0 ls) K = K .normal (mkF 124 [(0, .dat (.slc (s23) ls)), (2, .dat (.bool false))]) ([]) := by kernel_rfl
def ap_F1 (ls : List D) : Frame' := mkF 124 [(0, .dat (.slc (s23) ls)), (2, .dat (.bool false))]
def ap_T1 (_ls : List D) : Store := []
theorem ap_s0 (ls : List D) (K : Kt) : ex (Env.rebase (ap_E) 0) [2] (sqR 0 (bodyOf Tryd.f4)) [] [2] (ap_F0 ls) (ap_T0 ls) K = ex (Env.rebase (ap_E) 0) [2] (sqR 1 (bodyOf Tryd.f4)) [] [2] (ap_F1 ls) (ap_T1 ls) K := (seg_str (c := (sqR 0 (bodyOf Tryd.f4))) (a := sqA (sqR 0 (bodyOf Tryd.f4))) (b := (sqR 1 (bodyOf Tryd.f4))) (by kernel_rfl) (by kernel_rfl) (by kernel_rfl) (ap_q0 ls) K).trans (seqK_normal (by kernel_rfl) (by kernel_rfl))
theorem ap_r1 (ls : List D) (J : List AV → Store → Option Res) (K : Kt) : ex (Env.rebase (ap_E) 0) [2] (sqA (sqR 1 (bodyOf Tryd.f4))) [] [0] (ap_F1 ls) (ap_T1 ls) (jK [] J K) = (cond (iw_okL ls) ((cond (!right_v0 ls) (K (Exit.ret) (mkF 124 [(2, .dat (.bool true))]) ([])) ((cond (decide ((↑(List.length ls) : Int) > 60)) (K (Exit.ret) (mkF 124 [(2, .dat (.bool true))]) ([])) (J ([]) ([])))))) (none)) := by kernel_rfl
theorem ap_q1 (ls : List D) (J : List AV → Store → Option Res) (K : Kt) : ex (Env.rebase (ap_E) 0) [2] (sqA (sqR 1 (bodyOf Tryd.f4))) [] [0] (ap_F1 ls) (ap_T1 ls) (jK [] J K) = (cond (iw_okL ls) ((cond (!right_v0 ls || decide (60 < (↑(List.length ls) : Int))) (K (Exit.ret) (mkF 124 [(2, .dat (.bool true))]) ([])) (J ([]) ([])))) none) := (ap_r1 ls J K).trans (by
  generalize (decide (60 < (↑(List.length ls) : Int))) = z0
  generalize (iw_okL ls) = z1
  generalize (right_v0 ls) = z2
  cases z1 with
  | true =>
   cases z2 with
   | true =>
    cases z0 with
    | true =>
     rfl
    | false =>
     rfl
   | false =>
    rfl
  | false =>
   rfl
  )
def ap_F2 (ls : List D) : Frame' := mkF 124 [(0, .dat (.slc (s23) ls))]
def ap_T2 (_ls : List D) : Store := []
def ap_p1 (ls : List D) : Bool := iw_okL ls
def ap_c1_0 (ls : List D) : Bool := !right_v0 ls || decide (60 < (↑(List.length ls) : Int))
theorem ap_s1 (ls : List D) (K : Kt) : ex (Env.rebase (ap_E) 0) [2] (sqR 1 (bodyOf Tryd.f4)) [] [2] (ap_F1 ls) (ap_T1 ls) K = (cond (ap_p1 ls) ((cond (ap_c1_0 ls) (K (Exit.ret) (mkF 124 [(2, .dat (.bool true))]) ([])) (ex (Env.rebase (ap_E) 0) [2] (sqR 2 (bodyOf Tryd.f4)) [] [2] (ap_F2 ls) (ap_T2 ls) K))) none) := (seg_join (c := (sqR 1 (bodyOf Tryd.f4))) (a := sqA (sqR 1 (bodyOf Tryd.f4))) (b := (sqR 2 (bodyOf Tryd.f4))) (ds := [12, 13, 14, 15, 16, 17, 18, 19, 20, 2]) (by kernel_rfl) (by kernel_rfl) (by kernel_rfl) (by kernel_rfl) (by kernel_rfl) (by kernel_rfl) (ap_q1 ls) K).trans (condC (condC3 rfl (ex_same (by kernel_rfl) (by kernel_rfl))))
theorem ap_e1_0 (_ls : List D) : (finK (ap_E) true Tryd.f4 (callFin [] [])) (Exit.ret) (mkF 124 [(2, .dat (.bool true))]) ([]) = some (([.dat (.bool true)], []) : Res) := by kernel_rfl
theorem ap_q2 (ls : List D) (K : Kt) : ex (Env.rebase (ap_E) 0) [2] (sqA (sqR 2 (bodyOf Tryd.f4))) [] [0, 3] (ap_F2 ls) (ap_T2 ls) K = K .normal (mkF 124 [(0, .dat (.slc (s23) ls)), (3, .dat (.int .i64 0))]) ([]) := by kernel_rfl
def ap_F3 (ls : List D) : Frame' := mkF 124 [(0, .dat (.slc (s23) ls)), (3, .dat (.int .i64 0))]
def ap_T3 (_ls : List D) : Store := []
theorem ap_s2 (ls : List D) (K : Kt) : ex (Env.rebase (ap_E) 0) [2] (sqR 2 (bodyOf Tryd.f4)) [] [2] (ap_F2 ls) (ap_T2 ls) K = ex (Env.rebase (ap_E) 0) [2] (sqR 3 (bodyOf Tryd.f4)) [] [2] (ap_F3 ls) (ap_T3 ls) K := (seg_str (c := (sqR 2 (bodyOf Tryd.f4))) (a := sqA (sqR 2 (bodyOf Tryd.f4))) (b := (sqR 3 (bodyOf Tryd.f4))) (by kernel_rfl) (by kernel_rfl) (by kernel_rfl) (ap_q2 ls) K).trans (seqK_normal (by kernel_rfl) (by kernel_rfl))
theorem ap_r3 (ls : List D) (J : List AV → Store → Option Res) (K : Kt) : ex (Env.rebase (ap_E) 0) [2] (sqA (sqR 3 (bodyOf Tryd.f4))) [] [0, 3] (ap_F3 ls) (ap_T3 ls) (jK [3] J K) = (cond (okR ls) (J ([.dat (.int .i64 (sumR (mn ls 128) (List.length ls)))]) ([])) (none)) := by kernel_rfl
theorem ap_q3 (ls : List D) (J : List AV → Store → Option Res) (K : Kt) : ex (Env.rebase (ap_E) 0) [2] (sqA (sqR 3 (bodyOf Tryd.f4))) [] [0, 3] (ap_F3 ls) (ap_T3 ls) (jK [3] J K) = (cond (okR ls) (J ([.dat (.int .i64 (sumR (mn ls 128) (List.length ls)))]) ([])) none) := (ap_r3 ls J K).trans (by
  generalize (okR ls) = z0
  cases z0 with
  | true =>
   rfl
  | false =>
   rfl
  )
def ap_F4 (ls : List D) : Frame' := mkF 124 [(0, .dat (.slc (s23) ls)), (3, .dat (.int .i64 (sumR (mn ls 128) (List.length ls))))]
def ap_T4 (_ls : List D) : Store := []
def ap_p3 (ls : List D) : Bool := okR ls
theorem ap_s3 (ls : List D) (K : Kt) : ex (Env.rebase (ap_E) 0) [2] (sqR 3 (bodyOf Tryd.f4)) [] [2] (ap_F3 ls) (ap_T3 ls) K = (cond (ap_p3 ls) (ex (Env.rebase (ap_E) 0) [2] (sqR 4 (bodyOf Tryd.f4)) [] [2] (ap_F4 ls) (ap_T4 ls) K) none) := (seg_join (c := (sqR 3 (bodyOf Tryd.f4))) (a := sqA (sqR 3 (bodyOf Tryd.f4))) (b := (sqR 4 (bodyOf Tryd.f4))) (ds := [21, 22, 25, 26, 27, 5, 28, 29, 30, 31, 3, 32, 33, 34, 35, 38, 39, 40, 41, 42, 43, 44, 45, 46, 47, 48, 49, 50, 51, 53, 54, 55, 56, 57, 58, 59, 52, 60, 61, 7, 8, 63, 64, 65, 66, 67, 68, 69, 70, 62, 71, 72, 9, 10, 73, 74, 75, 76, 77, 78, 79, 80, 81, 82, 83, 84, 85, 86, 87, 88, 89, 90, 91, 92, 93, 94, 95, 96, 97, 98, 99, 100, 101, 102, 103, 104, 105, 2, 36, 37, 6, 23, 24, 4]) (by kernel_rfl) (by kernel_rfl) (by kernel_rfl) (by kernel_rfl) (by kernel_rfl) (by kernel_rfl) (ap_q3 ls) K).trans (condC (ex_same (by kernel_rfl) (by kernel_rfl)))
theorem ap_r4 (ls : List D) (J : List AV → Store → Option Res) (K : Kt) : ex (Env.rebase (ap_E) 0) [2] (sqA (sqR 4 (bodyOf Tryd.f4))) [] [3] (ap_F4 ls) (ap_T4 ls) (jK [3] J K) = (cond (List.all ls (okE k23) && (decide (List.length ls ≤ 1048576) && (decide (0 ≤ sumR (mn ls 128) (List.length ls)) && decide (sumR (mn ls 128) (List.length ls) ≤ 4194304)))) (J ([.dat (.int .i64 (sumR (mn ls 128) (List.length ls) - sumR (one1 ls) (List.length ls)))]) ([])) (none)) := by kernel_rfl
theorem ap_q4 (ls : List D) (J : List AV → Store → Option Res) (K : Kt) : ex (Env.rebase (ap_E) 0) [2] (sqA (sqR 4 (bodyOf Tryd.f4))) [] [3] (ap_F4 ls) (ap_T4 ls) (jK [3] J K) = (cond (List.all ls (okE k23) && (decide (List.length ls ≤ 1048576) && (decide (0 ≤ sumR (mn ls 128) (List.length ls)) && decide (sumR (mn ls 128) (List.length ls) ≤ 4194304)))) (J ([.dat (.int .i64 (sumR (mn ls 128) (List.length ls) - sumR (one1 ls) (List.length ls)))]) ([])) none) := (ap_r4 ls J K).trans (by
  generalize (List.all ls (okE k23) && (decide (List.length ls ≤ 1048576) && (decide (0 ≤ sumR (mn ls 128) (List.length ls)) && decide (sumR (mn ls 128) (List.length ls) ≤ 4194304)))) = z0
  cases z0 with
  | true =>
   rfl
  | false =>
   rfl
  )
def ap_w4v0 (ls : List D) : Int := sumR (mn ls 128) (List.length ls) - sumR (one1 ls) (List.length ls)
def ap_F5 (ls : List D) : Frame' := mkF 124 [(0, .dat (.slc (s23) ls)), (3, .dat (.int .i64 (ap_w4v0 ls)))]
def ap_T5 (_ls : List D) : Store := []
def ap_p4 (ls : List D) : Bool := List.all ls (okE k23) && (decide (List.length ls ≤ 1048576) && (decide (0 ≤ sumR (mn ls 128) (List.length ls)) && decide (sumR (mn ls 128) (List.length ls) ≤ 4194304)))
theorem ap_s4 (ls : List D) (K : Kt) : ex (Env.rebase (ap_E) 0) [2] (sqR 4 (bodyOf Tryd.f4)) [] [2] (ap_F4 ls) (ap_T4 ls) K = (cond (ap_p4 ls) (ex (Env.rebase (ap_E) 0) [2] (sqR 5 (bodyOf Tryd.f4)) [] [2] (ap_F5 ls) (ap_T5 ls) K) none) := (seg_join (c := (sqR 4 (bodyOf Tryd.f4))) (a := sqA (sqR 4 (bodyOf Tryd.f4))) (b := (sqR 5 (bodyOf Tryd.f4))) (ds := [106, 107, 108, 109, 112, 113, 114, 115, 116, 117, 118, 3, 110, 111, 11]) (by kernel_rfl) (by kernel_rfl) (by kernel_rfl) (by kernel_rfl) (by kernel_rfl) (by kernel_rfl) (ap_q4 ls) K).trans (condC (ex_same (by kernel_rfl) (by kernel_rfl)))
theorem ap_r5 (ls : List D) (K : Kt) : ex (Env.rebase (ap_E) 0) [2] (sqA (sqR 5 (bodyOf Tryd.f4))) [] [2] (ap_F5 ls) (ap_T5 ls) K = (cond (D.eqb (D.bool (ap_w4v0 ls == 0)) (D.bool true)) (K .normal (mkF 124 [(2, .dat (.bool true)), (3, .dat (.int .i64 (ap_w4v0 ls))), (119, .dat (.bool true)), (120, .dat (.bool true)), (122, .dat (.bool true)), (123, .dat (.bool true))]) ([])) (none)) := by kernel_rfl
theorem ap_q5 (ls : List D) (K : Kt) : ex (Env.rebase (ap_E) 0) [2] (sqA (sqR 5 (bodyOf Tryd.f4))) [] [2] (ap_F5 ls) (ap_T5 ls) K = (cond (ap_w4v0 ls == 0) (K .normal (mkF 124 [(2, .dat (.bool true)), (3, .dat (.int .i64 (ap_w4v0 ls))), (119, .dat (.bool true)), (120, .dat (.bool true)), (122, .dat (.bool true)), (123, .dat (.bool true))]) ([])) none) := (ap_r5 ls K).trans (by
  generalize (ap_w4v0 ls == 0) = z0
  cases z0 with
  | true =>
   rfl
  | false =>
   rfl
  )
def ap_F6 (ls : List D) : Frame' := mkF 124 [(2, .dat (.bool true)), (3, .dat (.int .i64 (ap_w4v0 ls))), (119, .dat (.bool true)), (120, .dat (.bool true)), (122, .dat (.bool true)), (123, .dat (.bool true))]
def ap_T6 (_ls : List D) : Store := []
def ap_p5 (ls : List D) : Bool := ap_w4v0 ls == 0
theorem ap_s5 (ls : List D) (K : Kt) : ex (Env.rebase (ap_E) 0) [2] (sqR 5 (bodyOf Tryd.f4)) [] [2] (ap_F5 ls) (ap_T5 ls) K = (cond (ap_p5 ls) (ex (Env.rebase (ap_E) 0) [2] (sqR 6 (bodyOf Tryd.f4)) [] [2] (ap_F6 ls) (ap_T6 ls) K) none) := (seg_str (c := (sqR 5 (bodyOf Tryd.f4))) (a := sqA (sqR 5 (bodyOf Tryd.f4))) (b := (sqR 6 (bodyOf Tryd.f4))) (by kernel_rfl) (by kernel_rfl) (by kernel_rfl) (ap_q5 ls) K).trans (condC (seqK_normal (by kernel_rfl) (by kernel_rfl)))
theorem ap_q6 (ls : List D) (K : Kt) : ex (Env.rebase (ap_E) 0) [2] (sqR 6 (bodyOf Tryd.f4)) [] [2] (ap_F6 ls) (ap_T6 ls) K = K (Exit.ret) (mkF 124 [(2, .dat (.bool true))]) ([]) := by kernel_rfl
theorem ap_s6 (ls : List D) (K : Kt) : ex (Env.rebase (ap_E) 0) [2] (sqR 6 (bodyOf Tryd.f4)) [] [2] (ap_F6 ls) (ap_T6 ls) K = K (Exit.ret) (mkF 124 [(2, .dat (.bool true))]) ([]) := (ap_q6 ls K).trans rfl
theorem ap_e6_0 (_ls : List D) : (finK (ap_E) true Tryd.f4 (callFin [] [])) (Exit.ret) (mkF 124 [(2, .dat (.bool true))]) ([]) = some (([.dat (.bool true)], []) : Res) := by kernel_rfl
def C_ap : FunT := fun args σ => match args, σ with
  | [AV.dat (D.slc (Sh.agg [Sh.one, Sh.one, Sh.one, Sh.one, Sh.one]) ls)], [] => .chk (ap_p1 ls) (.br (ap_c1_0 ls) (.leaf ([AV.dat (D.bool true)], [])) (.chk (ap_p3 ls) (.chk (ap_p4 ls) (.chk (ap_p5 ls) (.leaf ([AV.dat (D.bool true)], []))))))
  | _, _ => .fail
theorem ap_case0 (ls : List D) : runF (envOf tab SpH [] LL HH) true Tryd.f4 [.dat (.slc s23 ls)] [] = FunT.run C_ap [.dat (.slc s23 ls)] [] := ((ap_start ls).trans ((ap_s0 ls _).trans ((ap_s1 ls _).trans (condC ((condC (ap_e1_0 ls)).trans (condC2 ((ap_s2 ls _).trans ((ap_s3 ls _).trans (condC ((ap_s4 ls _).trans (condC ((ap_s5 ls _).trans (condC ((ap_s6 ls _).trans (ap_e6_0 ls))))))))))))))).trans (by kernel_rfl)
theorem cap_ok : FunOk Tryd.prog 4 (FunT.run C_ap) := by
  refine fun_ok (E := ap_E) (fz := true) (fn := Tryd.f4) (envOf_ok progOk SpH_ok) (by kernel_rfl) (by kernel_rfl) LL_ok ?_
  intro args σ r h
  unfold C_ap at h
  split at h
  · exact (ap_case0 _).trans h
  · simp [T.run_fail] at h
end Go.Proofs.YtggellmbhgkckaaDoor
