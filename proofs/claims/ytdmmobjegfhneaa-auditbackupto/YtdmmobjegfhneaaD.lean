/- Seat 20: logs; what is added. -/
import Derived.Test.YtdmmobjegfhneaaC
import Derived.Test.YtdmmobjegfhneaaP
namespace Go.Proofs.Ytdmmobjegfhneaa
open Go.AX
set_option maxRecDepth 100000
theorem iter_at {step : Int → T (Int ⊕ LOut)} {n : Nat} {p : Nat → Bool} {o : Nat → LOut} {o' : LOut}
    (h : ∀ i, i < n → (step (i : Int)).run = some (bif p i then .inr (o i) else .inl ((i + 1 : Nat) : Int)))
    (h' : (step (n : Int)).run = some (.inr o')) : ∃ k, (iterT step k 0).run = some (bif (List.range n).any p then o ((List.range n).findIdx p) else o') := by
  have key : ∀ (k i : Nat), i + k = n → (∀ j, j < i → p j = false) → (iterT step (k + 1) (i : Int)).run = some (bif (List.range n).any p then o ((List.range n).findIdx p) else o') := by
    intro k
    induction k with
    | zero =>
      intro i hi hq
      obtain rfl : i = n := by omega
      have : (List.range i).any p = false := by
        rw [List.any_eq_false]
        intro x hx
        rw [hq x (List.mem_range.1 hx)]; simp
      rw [this]; exact iter_out h'
    | succ k ih =>
      intro i hi hq
      have hr := h i (by omega)
      cases hp : p i with
      | true =>
        rw [hp, cond_true] at hr
        have e : (List.range n).findIdx p = i := by
          rw [List.findIdx_eq (by rw [List.length_range]; omega)]
          simp only [List.getElem_range]
          exact ⟨hp, fun q hq' => hq q hq'⟩
        have e2 : (List.range n).any p = true := List.any_eq_true.2 ⟨i, List.mem_range.2 (by omega), hp⟩
        rw [e, e2]; exact iter_out hr
      | false =>
        rw [hp, cond_false] at hr
        refine iter_next hr (ih (i + 1) (by omega) fun q hq' => ?_)
        rcases Nat.lt_succ_iff_lt_or_eq.1 hq' with h1 | rfl
        · exact hq q h1
        · exact hp
  exact ⟨n + 1, key n 0 (by omega) fun q hq => by omega⟩
def badR (l : List D) (i : Nat) : Bool := !mayD (nthD l i) || decide (0 < i) && !behD (nthD l i) (nthD l (i - 1))
def rightD (l : List D) : Bool := !(List.range l.length).any (badR l)
abbrev okL (l : List D) : Bool := l.all okEn && decide (l.length ≤ 1099511627776)
theorem okL_nth {l : List D} (h : l.all okEn = true) {i : Nat} (hi : i < l.length) : okEn (nthD l i) = true := List.all_eq_true.1 h _ (nthD_mem hi)
theorem okEn_k {x : D} (h : okEn x = true) : okE k25 x = true := by simp only [okEn, Bool.and_eq_true] at h; exact h.1
def spr (x : D) : D := .agg [.int .u64 (en x 0), .int .i64 (en x 1), .int .i64 (en x 2), .int .i64 (en x 3), .int .i64 (en x 4), .int .i64 (en x 5), .int .i64 (en x 6), .int .u64 (en x 7), .int .u64 (en x 8), .int .i64 (en x 9)]
abbrev enB (x : D) : Blk := ⟨s25, false, false, .dat (spr x)⟩
theorem ri_closed (l l2 : List D) (n : Int) (hc : (D.eqbL l2 l && (decide (n = (l.length : Int)) && okL l)) = true) :
    ∃ z, (iterT (ri_step l l2 n) z 0).run = T.run (.br ((List.range l.length).any (badR l)) (.leaf (none, mkF 30 [(2, .dat (.bool false))], [enB (nthD l ((List.range l.length).findIdx (badR l)))])) (.leaf (some 0, mkF 30 [], []))) := by
  simp only [Bool.and_eq_true, decide_eq_true_eq, eqbL_iff] at hc
  obtain ⟨rfl, rfl, h1, h2⟩ := hc
  obtain ⟨z, hz⟩ := iter_at (step := ri_step l2 l2 l2.length) (n := l2.length) (p := badR l2) (o := fun i => (none, mkF 30 [(2, .dat (.bool false))], [enB (nthD l2 i)])) (o' := (some 0, mkF 30 [], [])) (fun i hi => by
    have hx := okL_nth h1 hi
    have hm : may_v0 (en (nthD l2 i) 0) (en (nthD l2 i) 1) (en (nthD l2 i) 2) (en (nthD l2 i) 3) (en (nthD l2 i) 4) (en (nthD l2 i) 5) (en (nthD l2 i) 6) (en (nthD l2 i) 7) (en (nthD l2 i) 8) (en (nthD l2 i) 9) = mayD (nthD l2 i) := rfl
    by_cases h0 : i = 0
    · subst h0
      unfold ri_step badR
      simp only [Int.toNat_natCast, decide_eq_true (show ((0 : Nat) : Int) < (l2.length : Int) by omega), decide_eq_true (show (0 : Int) ≤ ((0 : Nat) : Int) by omega), decide_eq_true hi, okEn_k hx, hm, decide_eq_false (show ¬ (0 : Int) < ((0 : Nat) : Int) by omega), decide_eq_false (Nat.lt_irrefl 0), wrap_succ (show 0 < 2 ^ 62 by omega), Bool.not_true, Bool.not_false, Bool.true_and, Bool.true_or, Bool.or_true, Bool.false_and, Bool.or_false, T.run_br, T.run_chk, T.run_leaf, cond_true, cond_false]
      cases mayD (nthD l2 0) <;> rfl
    · have hx1 := okL_nth h1 (show i - 1 < l2.length by omega)
      have hw : IntKind.wrap .i64 ((i : Int) - 1) = ((i - 1 : Nat) : Int) := by rw [IntKind.wrap_i64]; omega
      obtain ⟨o1, o2⟩ := ord_beh (nthD l2 (i - 1)) (nthD l2 i)
      unfold ri_step badR
      simp only [hw, Int.toNat_natCast, decide_eq_true (show (i : Int) < (l2.length : Int) by omega), decide_eq_true (show (0 : Int) ≤ (i : Int) by omega), decide_eq_true (show (0 : Int) ≤ ((i - 1 : Nat) : Int) by omega), decide_eq_true (show i - 1 < l2.length by omega), decide_eq_true hi, okEn_k hx, okEn_k hx1, hm, o1, o2, decide_eq_true (show (0 : Int) < (i : Int) by omega), decide_eq_true (show 0 < i by omega), wrap_succ (show i < 2 ^ 62 by omega), Bool.not_true, Bool.true_and, Bool.or_true, T.run_br, T.run_chk, T.run_leaf, cond_true, cond_false]
      cases mayD (nthD l2 i) <;> cases behD (nthD l2 i) (nthD l2 (i - 1)) <;> rfl) (by
    unfold ri_step
    simp only [decide_eq_false (show ¬ (l2.length : Int) < (l2.length : Int) by omega)]
    rfl)
  exact ⟨z, hz.trans (by rw [T.run_br]; cases (List.range l2.length).any (badR l2) <;> rfl)⟩
def L_ri : Frame' → Store → T (Exit × Frame' × Store) := fun fr σ => match fr.getD 0 .undef, fr.getD 5 .undef, fr.getD 6 .undef, fr.getD 7 .undef, σ with
  | AV.dat (D.slc (Sh.agg [Sh.one, Sh.one, Sh.one, Sh.one, Sh.one, Sh.one, Sh.one, Sh.one, Sh.one, Sh.one]) l), AV.dat (D.slc (Sh.agg [Sh.one, Sh.one, Sh.one, Sh.one, Sh.one, Sh.one, Sh.one, Sh.one, Sh.one, Sh.one]) l2), AV.dat (D.int IntKind.i64 n), AV.dat (D.int IntKind.i64 0), [] => .chk (Nat.beq fr.length 30 && (D.eqbL l2 l && (decide (n = (l.length : Int)) && okL l))) (T.bind (.br ((List.range l.length).any (badR l)) (.leaf (none, mkF 30 [(2, .dat (.bool false))], [enB (nthD l ((List.range l.length).findIdx (badR l)))])) (.leaf (some 0, mkF 30 [], []))) fun o => .leaf (outEx o.1, o.2.1, o.2.2))
  | _, _, _, _, _ => .fail
theorem ri_sem (lp : Loops) : ∀ fr σ p, (L_ri fr σ).run = some p → ∀ (K : Kt) r, K p.1 p.2.1 p.2.2 = some r → ∃ n, loopRun (envOf tab SpC [] lp []) Try.f11 0 σ.length n (cleanF (liveAt Try.f11 0) 0 fr) σ K = some r := by
  intro fr σ p h K r hK
  unfold L_ri at h
  split at h
  · rename_i l l2 n g0 g5 g6 g7
    obtain ⟨hc, h'⟩ := T.chk_some h
    rw [Bool.and_eq_true] at hc
    obtain ⟨hl, hc⟩ := hc
    obtain ⟨o, ho, h'⟩ := T.bind_some h'
    have hp := T.leaf_some h'
    subst hp
    obtain ⟨nF, hn⟩ : ∃ nF, (iterT (ri_step l l2 n) nF (0)).run = T.run (.br ((List.range l.length).any (badR l)) (.leaf (none, mkF 30 [(2, .dat (.bool false))], [enB (nthD l ((List.range l.length).findIdx (badR l)))])) (.leaf (some 0, mkF 30 [], []))) := ri_closed l l2 n hc
    rw [ho] at hn
    refine ⟨nF, ?_⟩
    have he : cleanF (liveAt Try.f11 0) 0 fr = ri_fr l l2 n (0) := ri_enter l l2 n _ fr hl g0 g5 g6 g7
    refine (iter_ok (base := 0) (ri_hr lp l l2 n) K nF (0) _ _ (by rw [clean_clean]; exact he) (by kernel_rfl)).trans ?_
    rw [T.k_run hn]
    exact hK
  · simp [T.run_fail] at h
theorem ri_loopOk {k : Nat} (lp : Loops) (hk : Loops.get lp 2 = some L_ri) : LoopOkN Try.prog k (envOf tab SpC [] lp []) (loopAt Try.f11 0).1 (loopAt Try.f11 0).2 := loop_okN (L := L_ri) (by kernel_rfl) hk (ri_sem lp)
theorem rr_closed (l : List D) (hc : okL l = true) :
    ∃ z, (iterT (rr_step l) z 0).run = T.run (.br (rightD l) (.leaf (some 0, mkF 33 [], [])) (.leaf (none, mkF 33 [(2, .dat (.bool false))], []))) := by
  simp only [okL, Bool.and_eq_true, decide_eq_true_eq] at hc
  obtain ⟨h1, h2⟩ := hc
  obtain ⟨z, hz⟩ := iter_any (step := rr_step l) (n := l.length) (p := badR l) (o := (none, mkF 33 [(2, .dat (.bool false))], [])) (o' := (some 0, mkF 33 [], [])) (fun i hi => by
    have hx := okL_nth h1 hi
    obtain ⟨hm, hp⟩ := may_eq hx
    by_cases h0 : i = 0
    · subst h0
      unfold rr_step badR
      simp only [Int.toNat_natCast, decide_eq_true (show ((0 : Nat) : Int) < (l.length : Int) by omega), decide_eq_true (show (0 : Int) ≤ ((0 : Nat) : Int) by omega), decide_eq_true hi, okEn_k hx, hm, hp, decide_eq_false (show ¬ (0 : Int) < ((0 : Nat) : Int) by omega), decide_eq_false (Nat.lt_irrefl 0), wrap_succ (show 0 < 2 ^ 62 by omega), Bool.not_true, Bool.not_false, Bool.true_and, Bool.true_or, Bool.or_true, Bool.false_and, Bool.or_false, T.run_br, T.run_chk, T.run_leaf, cond_true, cond_false]
      cases mayD (nthD l 0) <;> rfl
    · have hx1 := okL_nth h1 (show i - 1 < l.length by omega)
      have hw : IntKind.wrap .i64 ((i : Int) - 1) = ((i - 1 : Nat) : Int) := by rw [IntKind.wrap_i64]; omega
      have hb : beh_v0 (en (nthD l i) 0) (en (nthD l i) 1) (en (nthD l (i - 1)) 0) (en (nthD l (i - 1)) 1) = behD (nthD l i) (nthD l (i - 1)) := rfl
      unfold rr_step badR
      simp only [hw, Int.toNat_natCast, decide_eq_true (show (i : Int) < (l.length : Int) by omega), decide_eq_true (show (0 : Int) ≤ (i : Int) by omega), decide_eq_true (show (0 : Int) ≤ ((i - 1 : Nat) : Int) by omega), decide_eq_true (show i - 1 < l.length by omega), decide_eq_true hi, okEn_k hx, okEn_k hx1, hm, hp, hb, decide_eq_true (show (0 : Int) < (i : Int) by omega), decide_eq_true (show 0 < i by omega), wrap_succ (show i < 2 ^ 62 by omega), Bool.not_true, Bool.true_and, Bool.or_true, T.run_br, T.run_chk, T.run_leaf, cond_true, cond_false]
      cases mayD (nthD l i) <;> cases behD (nthD l i) (nthD l (i - 1)) <;> rfl) (by
    unfold rr_step
    simp only [decide_eq_false (show ¬ (l.length : Int) < (l.length : Int) by omega)]
    rfl)
  refine ⟨z, hz.trans ?_⟩
  rw [T.run_br]
  unfold rightD
  cases (List.range l.length).any (badR l) <;> rfl
def L_rr : Frame' → Store → T (Exit × Frame' × Store) := fun fr σ => match fr.getD 0 .undef, fr.getD 3 .undef, σ with
  | AV.dat (D.slc (Sh.agg [Sh.one, Sh.one, Sh.one, Sh.one, Sh.one, Sh.one, Sh.one, Sh.one, Sh.one, Sh.one]) l), AV.dat (D.int IntKind.i64 0), [] => .chk (Nat.beq fr.length 33 && (okL l)) (T.bind (.br (rightD l) (.leaf (some 0, mkF 33 [], [])) (.leaf (none, mkF 33 [(2, .dat (.bool false))], []))) fun o => .leaf (outEx o.1, o.2.1, o.2.2))
  | _, _, _ => .fail
theorem rr_sem (lp : Loops) : ∀ fr σ p, (L_rr fr σ).run = some p → ∀ (K : Kt) r, K p.1 p.2.1 p.2.2 = some r → ∃ n, loopRun (envOf tab SpC [] lp []) Try.f12 0 σ.length n (cleanF (liveAt Try.f12 0) 0 fr) σ K = some r := by
  intro fr σ p h K r hK
  unfold L_rr at h
  split at h
  · rename_i l g0 g3
    obtain ⟨hc, h'⟩ := T.chk_some h
    rw [Bool.and_eq_true] at hc
    obtain ⟨hl, hc⟩ := hc
    obtain ⟨o, ho, h'⟩ := T.bind_some h'
    have hp := T.leaf_some h'
    subst hp
    obtain ⟨nF, hn⟩ : ∃ nF, (iterT (rr_step l) nF (0)).run = T.run (.br (rightD l) (.leaf (some 0, mkF 33 [], [])) (.leaf (none, mkF 33 [(2, .dat (.bool false))], []))) := rr_closed l hc
    rw [ho] at hn
    refine ⟨nF, ?_⟩
    have he : cleanF (liveAt Try.f12 0) 0 fr = rr_fr l (0) := rr_enter l _ fr hl g0 g3
    refine (iter_ok (base := 0) (rr_hr lp l) K nF (0) _ _ (by rw [clean_clean]; exact he) (by kernel_rfl)).trans ?_
    rw [T.k_run hn]
    exact hK
  · simp [T.run_fail] at h
theorem rr_loopOk {k : Nat} (lp : Loops) (hk : Loops.get lp 2 = some L_rr) : LoopOkN Try.prog k (envOf tab SpC [] lp []) (loopAt Try.f12 0).1 (loopAt Try.f12 0).2 := loop_okN (L := L_rr) (by kernel_rfl) hk (rr_sem lp)
def eqEn (x y : D) : Bool := en x 0 == en y 0 && (en x 1 == en y 1 && (en x 2 == en y 2 && (en x 3 == en y 3 && (en x 4 == en y 4 && (en x 5 == en y 5 && (en x 6 == en y 6 && (en x 7 == en y 7 && (en x 8 == en y 8 && (en x 9 == en y 9 && true)))))))))
theorem en_ints {x : D} (h : okE k25 x = true) : x = spr x := by
  obtain ⟨a0, a1, a2, a3, a4, a5, a6, a7, a8, a9, rfl, h0, h1, h2, h3, h4, h5, h6, h7, h8, h9⟩ := okE_agg10 h
  obtain ⟨n0, rfl⟩ := okE_int h0
  obtain ⟨n1, rfl⟩ := okE_int h1
  obtain ⟨n2, rfl⟩ := okE_int h2
  obtain ⟨n3, rfl⟩ := okE_int h3
  obtain ⟨n4, rfl⟩ := okE_int h4
  obtain ⟨n5, rfl⟩ := okE_int h5
  obtain ⟨n6, rfl⟩ := okE_int h6
  obtain ⟨n7, rfl⟩ := okE_int h7
  obtain ⟨n8, rfl⟩ := okE_int h8
  obtain ⟨n9, rfl⟩ := okE_int h9
  rfl
theorem eqEn_eqb {x y : D} (hx : okE k25 x = true) (hy : okE k25 y = true) : eqEn x y = D.eqb x y := by
  refine bool_ext ?_
  rw [eqb_iff]
  constructor
  · intro h
    simp only [eqEn, Bool.and_eq_true, beq_iff_eq] at h
    obtain ⟨g0, g1, g2, g3, g4, g5, g6, g7, g8, g9, _⟩ := h
    rw [en_ints hx, en_ints hy]
    unfold spr
    rw [g0, g1, g2, g3, g4, g5, g6, g7, g8, g9]
  · rintro rfl
    simp [eqEn]
theorem okL_k {l : List D} (h : l.all okEn = true) : l.all (okE k25) = true := by
  rw [List.all_eq_true] at h ⊢
  exact fun d hd => okEn_k (h d hd)
theorem sm_closed (a b : List D) (hc : (decide (a.length = b.length) && (a.all (okE k25) && (b.all (okE k25) && decide (a.length ≤ 1099511627776)))) = true) :
    ∃ z, (iterT (sm_step a b) z 0).run = T.run (.br (D.eqbL a b) (.leaf (some 0, mkF 26 [], [])) (.leaf (none, mkF 26 [(4, .dat (.bool false))], []))) := by
  simp only [Bool.and_eq_true, decide_eq_true_eq] at hc
  obtain ⟨hl, h1, h3, h2⟩ := hc
  obtain ⟨z, hz⟩ := iter_any (step := sm_step a b) (n := a.length) (p := fun i => !eqEn (nthD a i) (nthD b i)) (o := (none, mkF 26 [(4, .dat (.bool false))], [])) (o' := (some 0, mkF 26 [], [])) (fun i hi => by
    have e1 := allE_nth h1 hi
    have e2 := allE_nth h3 (show i < b.length by omega)
    unfold sm_step
    simp only [Int.toNat_natCast, decide_eq_true (show (i : Int) < (a.length : Int) by omega), decide_eq_true (show (0 : Int) ≤ (i : Int) by omega), decide_eq_true hi, decide_eq_true (show i < b.length by omega), e1, e2, wrap_succ (show i < 2 ^ 62 by omega), Bool.not_true, Bool.false_or, Bool.true_and, T.run_br, T.run_chk, T.run_leaf, cond_true, cond_false]
    show (bif !eqEn (nthD a i) (nthD b i) then _ else _) = _
    cases eqEn (nthD a i) (nthD b i) <;> rfl) (by
    unfold sm_step
    simp only [decide_eq_false (show ¬ (a.length : Int) < (a.length : Int) by omega)]
    rfl)
  refine ⟨z, hz.trans ?_⟩
  rw [any_eqbL hl (fun i hi => eqEn_eqb (allE_nth h1 hi) (allE_nth h3 (by omega))), T.run_br]
  cases D.eqbL a b <;> rfl
def L_sm : Frame' → Store → T (Exit × Frame' × Store) := fun fr σ => match fr.getD 0 .undef, fr.getD 1 .undef, fr.getD 5 .undef, σ with
  | AV.dat (D.slc (Sh.agg [Sh.one, Sh.one, Sh.one, Sh.one, Sh.one, Sh.one, Sh.one, Sh.one, Sh.one, Sh.one]) a), AV.dat (D.slc (Sh.agg [Sh.one, Sh.one, Sh.one, Sh.one, Sh.one, Sh.one, Sh.one, Sh.one, Sh.one, Sh.one]) b), AV.dat (D.int IntKind.i64 0), [] => .chk (Nat.beq fr.length 26 && (decide (a.length = b.length) && (a.all (okE k25) && (b.all (okE k25) && decide (a.length ≤ 1099511627776))))) (T.bind (.br (D.eqbL a b) (.leaf (some 0, mkF 26 [], [])) (.leaf (none, mkF 26 [(4, .dat (.bool false))], []))) fun o => .leaf (outEx o.1, o.2.1, o.2.2))
  | _, _, _, _ => .fail
theorem sm_sem (lp : Loops) : ∀ fr σ p, (L_sm fr σ).run = some p → ∀ (K : Kt) r, K p.1 p.2.1 p.2.2 = some r → ∃ n, loopRun (envOf tab SpC [] lp []) Try.f13 0 σ.length n (cleanF (liveAt Try.f13 0) 0 fr) σ K = some r := by
  intro fr σ p h K r hK
  unfold L_sm at h
  split at h
  · rename_i a b g0 g1 g5
    obtain ⟨hc, h'⟩ := T.chk_some h
    rw [Bool.and_eq_true] at hc
    obtain ⟨hl, hc⟩ := hc
    obtain ⟨o, ho, h'⟩ := T.bind_some h'
    have hp := T.leaf_some h'
    subst hp
    obtain ⟨nF, hn⟩ : ∃ nF, (iterT (sm_step a b) nF (0)).run = T.run (.br (D.eqbL a b) (.leaf (some 0, mkF 26 [], [])) (.leaf (none, mkF 26 [(4, .dat (.bool false))], []))) := sm_closed a b hc
    rw [ho] at hn
    refine ⟨nF, ?_⟩
    have he : cleanF (liveAt Try.f13 0) 0 fr = sm_fr a b (0) := sm_enter a b _ fr hl g0 g1 g5
    refine (iter_ok (base := 0) (sm_hr lp a b) K nF (0) _ _ (by rw [clean_clean]; exact he) (by kernel_rfl)).trans ?_
    rw [T.k_run hn]
    exact hK
  · simp [T.run_fail] at h
theorem sm_loopOk {k : Nat} (lp : Loops) (hk : Loops.get lp 4 = some L_sm) : LoopOkN Try.prog k (envOf tab SpC [] lp []) (loopAt Try.f13 0).1 (loopAt Try.f13 0).2 := loop_okN (L := L_sm) (by kernel_rfl) hk (sm_sem lp)
def rg_v0 (l : List D) : Bool := !List.any (List.range (List.length l)) (badR l)
def rg_pre (l : List D) : Bool := D.eqbL l l && (decide ((↑(List.length l) : Int) = (↑(List.length l) : Int)) && okL l)
def C_rg : FunT := fun args σ => match args, σ with
  | [AV.dat (D.slc (Sh.agg [Sh.one, Sh.one, Sh.one, Sh.one, Sh.one, Sh.one, Sh.one, Sh.one, Sh.one, Sh.one]) l)], [] => .chk ((rg_pre l)) (.leaf ([AV.dat (D.bool (rg_v0 l))], []))
  | _, _ => .fail
theorem rg_raw0 (l : List D) : runF (envOf tab SpC [] [(2, L_ri)] []) true Try.f11 [.dat (.slc s25 l)] [] =
  (bif D.eqbL l l && (decide ((↑(List.length l) : Int) = (↑(List.length l) : Int)) && okL l) then
   (bif List.any (List.range (List.length l)) (badR l) then some ([.dat (.bool false)], []) else some ([.dat (.bool true)], [])) else none) := by kernel_rfl
theorem rg_case0 (l : List D) : runF (envOf tab SpC [] [(2, L_ri)] []) true Try.f11 [.dat (.slc s25 l)] [] = FunT.run C_rg [.dat (.slc s25 l)] [] := (rg_raw0 l).trans (by
  show _ = (cond (D.eqbL l l && (decide ((↑(List.length l) : Int) = (↑(List.length l) : Int)) && okL l)) (some (([.dat (.bool !List.any (List.range (List.length l)) (badR l))], []) : Res)) none)
  generalize (D.eqbL l l && (decide ((↑(List.length l) : Int) = (↑(List.length l) : Int)) && okL l)) = z0
  generalize (List.any (List.range (List.length l)) (badR l)) = z1
  cases z0 with
  | true =>
   cases z1 with
   | true =>
    rfl
   | false =>
    rfl
  | false =>
   rfl
  )
theorem crg_ok : FunOk Try.prog 11 (FunT.run C_rg) := by
  refine fun_ok (E := envOf tab SpC [] [(2, L_ri)] []) (fz := true) (fn := Try.f11) (envOf_ok progOk SpC_ok) (by kernel_rfl) (by kernel_rfl) (loops_one (by kernel_rfl) (ri_loopOk _ rfl)) ?_
  intro args σ r h
  unfold C_rg at h
  split at h
  · exact (rg_case0 _).trans h
  · simp [T.run_fail] at h
def C_rrg : FunT := fun args σ => match args, σ with
  | [AV.dat (D.slc (Sh.agg [Sh.one, Sh.one, Sh.one, Sh.one, Sh.one, Sh.one, Sh.one, Sh.one, Sh.one, Sh.one]) l)], [] => .chk (okL l) (.leaf ([AV.dat (D.bool (rightD l))], []))
  | _, _ => .fail
theorem rrg_raw0 (l : List D) : runF (envOf tab SpC [] [(2, L_rr)] []) true Try.f12 [.dat (.slc s25 l)] [] =
  (bif okL l then
   (bif rightD l then some ([.dat (.bool true)], []) else some ([.dat (.bool false)], [])) else none) := by kernel_rfl
theorem rrg_case0 (l : List D) : runF (envOf tab SpC [] [(2, L_rr)] []) true Try.f12 [.dat (.slc s25 l)] [] = FunT.run C_rrg [.dat (.slc s25 l)] [] := (rrg_raw0 l).trans (by
  show _ = (cond (okL l) (some (([.dat (.bool (rightD l))], []) : Res)) none)
  generalize (rightD l) = z0
  generalize (okL l) = z1
  cases z1 with
  | true =>
   cases z0 with
   | true =>
    rfl
   | false =>
    rfl
  | false =>
   rfl
  )
theorem crrg_ok : FunOk Try.prog 12 (FunT.run C_rrg) := by
  refine fun_ok (E := envOf tab SpC [] [(2, L_rr)] []) (fz := true) (fn := Try.f12) (envOf_ok progOk SpC_ok) (by kernel_rfl) (by kernel_rfl) (loops_one (by kernel_rfl) (rr_loopOk _ rfl)) ?_
  intro args σ r h
  unfold C_rrg at h
  split at h
  · exact (rrg_case0 _).trans h
  · simp [T.run_fail] at h
def same_v0 (a : List D) (b : List D) : Bool := !(↑(List.length a) : Int) != (↑(List.length b) : Int) && D.eqbL a b
def same_pre (a : List D) (b : List D) : Bool := (↑(List.length a) : Int) != (↑(List.length b) : Int) || decide (List.length a = List.length b) && (List.all a (okE k25) && (List.all b (okE k25) && decide (List.length a ≤ 1099511627776)))
def C_same : FunT := fun args σ => match args, σ with
  | [AV.dat (D.slc (Sh.agg [Sh.one, Sh.one, Sh.one, Sh.one, Sh.one, Sh.one, Sh.one, Sh.one, Sh.one, Sh.one]) a), AV.dat (D.slc (Sh.agg [Sh.one, Sh.one, Sh.one, Sh.one, Sh.one, Sh.one, Sh.one, Sh.one, Sh.one, Sh.one]) b)], [] => .chk ((same_pre a b)) (.leaf ([AV.dat (D.bool (same_v0 a b))], []))
  | _, _ => .fail
theorem same_raw0 (a b : List D) : runF (envOf tab SpC [] [(4, L_sm)] []) true Try.f13 [.dat (.slc s25 a), .dat (.slc s25 b)] [] =
  (bif (↑(List.length a) : Int) != (↑(List.length b) : Int) then some ([.dat (.bool false)], []) else
   (bif decide (List.length a = List.length b) && (List.all a (okE k25) && (List.all b (okE k25) && decide (List.length a ≤ 1099511627776))) then
    (bif D.eqbL a b then some ([.dat (.bool true)], []) else some ([.dat (.bool false)], [])) else none)) := by kernel_rfl
theorem same_case0 (a b : List D) : runF (envOf tab SpC [] [(4, L_sm)] []) true Try.f13 [.dat (.slc s25 a), .dat (.slc s25 b)] [] = FunT.run C_same [.dat (.slc s25 a), .dat (.slc s25 b)] [] := (same_raw0 a b).trans (by
  show _ = (cond ((↑(List.length a) : Int) != (↑(List.length b) : Int) || decide (List.length a = List.length b) && (List.all a (okE k25) && (List.all b (okE k25) && decide (List.length a ≤ 1099511627776)))) (some (([.dat (.bool (!(↑(List.length a) : Int) != (↑(List.length b) : Int) && D.eqbL a b))], []) : Res)) none)
  generalize (decide (List.length a = List.length b) && (List.all a (okE k25) && (List.all b (okE k25) && decide (List.length a ≤ 1099511627776)))) = z0
  generalize ((↑(List.length a) : Int) != (↑(List.length b) : Int)) = z1
  generalize (D.eqbL a b) = z2
  cases z1 with
  | true =>
   rfl
  | false =>
   cases z0 with
   | true =>
    cases z2 with
    | true =>
     rfl
    | false =>
     rfl
   | false =>
    rfl
  )
theorem csame_ok : FunOk Try.prog 13 (FunT.run C_same) := by
  refine fun_ok (E := envOf tab SpC [] [(4, L_sm)] []) (fz := true) (fn := Try.f13) (envOf_ok progOk SpC_ok) (by kernel_rfl) (by kernel_rfl) (loops_one (by kernel_rfl) (sm_loopOk _ rfl)) ?_
  intro args σ r h
  unfold C_same at h
  split at h
  · exact (same_case0 _ _).trans h
  · simp [T.run_fail] at h
theorem cl0  : runF (envOf tab [] [] [] []) true Try.f19 [.dat (.slc s25 [])] [] =some ([.dat (.slc (s25) [])], []) := by kernel_rfl
theorem cl1 (d : D) (ds : List D) : runF (envOf tab [] [] [] []) true Try.f19 [.dat (.slc s25 (d :: ds))] [] =
  (bif fits (s25) (d :: ds) then
   (bif decide ((0 + List.length (d :: ds)) * 80 ≤ 35184372088832) then
    (bif Nat.beq (List.length (d :: ds)) (0 + List.length (d :: ds)) then some ([.dat (.slc (s25) (seg (d :: ds) 0 (0 + List.length (d :: ds))))], []) else none) else none) else none) := by kernel_rfl
theorem clO1 (d : D) (ds : List D) : runF (envOf tab [] [] [] []) false Try.f19 [.dat (.slc s25 (d :: ds))] [] =
  (bif fits (s25) (d :: ds) then
   (bif decide ((0 + List.length (d :: ds)) * 80 ≤ 35184372088832) then some ([AV.sref (s25) 0 (0 + List.length (d :: ds)) [] 0 (0 + List.length (d :: ds))], [{ sh := Sh.arr (s25) 0, dyn := true, frz := false, v := .dat (.arr (s25) (d :: ds)) }]) else none) else none) := by kernel_rfl
def S_cl : FunT := fun args σ => match args, σ with
  | [.dat (.slc (.agg [.one, .one, .one, .one, .one, .one, .one, .one, .one, .one]) ds)], [] => .chk (fits (.agg [.one, .one, .one, .one, .one, .one, .one, .one, .one, .one]) ds && decide (ds.length * 80 ≤ LIM)) (.leaf ([.dat (.slc (.agg [.one, .one, .one, .one, .one, .one, .one, .one, .one, .one]) ds)], []))
  | _, _ => .fail
theorem cl_ok : FunOk Try.prog 19 (FunT.run S_cl) := by
  refine fun_ok (E := envOf tab [] [] [] []) (fz := true) (fn := Try.f19) (envOf_ok progOk (.nil _)) (by kernel_rfl) (by kernel_rfl) (loops_none (by kernel_rfl)) ?_
  intro args σ r h
  unfold S_cl at h
  split at h
  · rename_i ds
    obtain ⟨hc, h'⟩ := T.chk_some h
    rw [← T.leaf_some h']
    simp only [Bool.and_eq_true, decide_eq_true_eq] at hc
    cases ds with
    | nil => exact cl0
    | cons d ds =>
      rw [cl1, hc.1, Nat.zero_add, decide_eq_true (show (d :: ds).length * 80 ≤ 35184372088832 from hc.2), beq_self, seg_full]; rfl
  · simp [T.run_fail] at h
def S_clO : FunT := fun args σ => match args, σ with
  | [.dat (.slc (.agg [.one, .one, .one, .one, .one, .one, .one, .one, .one, .one]) ds)], [] => .chk (!ds.isEmpty && fits (.agg [.one, .one, .one, .one, .one, .one, .one, .one, .one, .one]) ds && decide (ds.length * 80 ≤ LIM)) (.leaf ([.sref (.agg [.one, .one, .one, .one, .one, .one, .one, .one, .one, .one]) 0 ds.length [] 0 ds.length], [mkDyn (.agg [.one, .one, .one, .one, .one, .one, .one, .one, .one, .one]) ds]))
  | _, _ => .fail
theorem clO_ok : FunOk Try.prog 19 (FunT.run S_clO) := by
  refine fun_ok (E := envOf tab [] [] [] []) (fz := false) (fn := Try.f19) (envOf_ok progOk (.nil _)) (by kernel_rfl) (by kernel_rfl) (loops_none (by kernel_rfl)) ?_
  intro args σ r h
  unfold S_clO at h
  split at h
  · rename_i ds
    obtain ⟨hc, h'⟩ := T.chk_some h
    rw [← T.leaf_some h']
    simp only [Bool.and_eq_true, decide_eq_true_eq] at hc
    cases ds with
    | nil => simp at hc
    | cons d ds => rw [clO1, hc.1.2, Nat.zero_add, decide_eq_true (show (d :: ds).length * 80 ≤ 35184372088832 from hc.2)]; rfl
  · simp [T.run_fail] at h
def C_clB : FunT := fun args σ => match args, σ with
  | [.dat (.slc (.agg [.one, .one, .one, .one, .one, .one, .one, .one, .one, .one]) [])], [] => .leaf ([.dat (.slc (.agg [.one, .one, .one, .one, .one, .one, .one, .one, .one, .one]) [])], [])
  | [.dat (.slc (.agg [.one, .one, .one, .one, .one, .one, .one, .one, .one, .one]) (d :: ds))], [] => .chk (fits (.agg [.one, .one, .one, .one, .one, .one, .one, .one, .one, .one]) (d :: ds) && decide ((d :: ds).length * 80 ≤ LIM)) (.leaf ([.sref (.agg [.one, .one, .one, .one, .one, .one, .one, .one, .one, .one]) 0 (d :: ds).length [] 0 (d :: ds).length], [mkDyn (.agg [.one, .one, .one, .one, .one, .one, .one, .one, .one, .one]) (d :: ds)]))
  | _, _ => .fail
theorem cclB_ok : FunOk Try.prog 19 (FunT.run C_clB) := by
  intro w S m σ args vals res σ' hi hv hr
  unfold FunT.run C_clB at hr
  split at hr
  · exact cl_ok w S m _ _ vals res σ' hi hv hr
  · refine clO_ok w S m _ _ vals res σ' hi hv ?_
    exact hr
  · simp [T.run_fail] at hr
def clip_pre (l : List D) : Bool := decide ((↑(List.length l) : Int) = (↑(List.length l) : Int)) && decide (Int.toNat (↑(List.length l) : Int) ≤ List.length l)
def C_clip : FunT := fun args σ => match args, σ with
  | [AV.dat (D.slc (Sh.agg [Sh.one, Sh.one, Sh.one, Sh.one, Sh.one, Sh.one, Sh.one, Sh.one, Sh.one, Sh.one]) l)], [] => .chk ((clip_pre l)) (.leaf ([AV.fslc (s25) (seg l 0 (Int.toNat (↑(List.length l) : Int) - 0))], []))
  | _, _ => .fail
theorem clip_raw0 (l : List D) : runF (envOf tab [] [] [] []) false Try.f18 [.dat (.slc s25 l)] [] =
  (bif decide ((↑(List.length l) : Int) = (↑(List.length l) : Int)) then
   (bif decide (Int.toNat (↑(List.length l) : Int) ≤ List.length l) then some ([AV.fslc (s25) (seg l 0 (Int.toNat (↑(List.length l) : Int) - 0))], []) else none) else none) := by kernel_rfl
theorem clip_case0 (l : List D) : runF (envOf tab [] [] [] []) false Try.f18 [.dat (.slc s25 l)] [] = FunT.run C_clip [.dat (.slc s25 l)] [] := (clip_raw0 l).trans (by
  show _ = (cond (decide ((↑(List.length l) : Int) = (↑(List.length l) : Int)) && decide (Int.toNat (↑(List.length l) : Int) ≤ List.length l)) (some (([AV.fslc (s25) (seg l 0 (Int.toNat (↑(List.length l) : Int) - 0))], []) : Res)) none)
  generalize (decide ((↑(List.length l) : Int) = (↑(List.length l) : Int))) = z0
  generalize (decide (Int.toNat (↑(List.length l) : Int) ≤ List.length l)) = z1
  cases z0 with
  | true =>
   cases z1 with
   | true =>
    rfl
   | false =>
    rfl
  | false =>
   rfl
  )
theorem cclip_ok : FunOk Try.prog 18 (FunT.run C_clip) := by
  refine fun_ok (E := envOf tab [] [] [] []) (fz := false) (fn := Try.f18) (envOf_ok progOk (.nil _)) (by kernel_rfl) (by kernel_rfl) (loops_none (by kernel_rfl)) ?_
  intro args σ r h
  unfold C_clip at h
  split at h
  · exact (clip_case0 _).trans h
  · simp [T.run_fail] at h
end Go.Proofs.Ytdmmobjegfhneaa
