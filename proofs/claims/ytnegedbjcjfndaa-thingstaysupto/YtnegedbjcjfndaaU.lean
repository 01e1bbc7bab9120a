/- Seat 16: ThingStays' loops, to the end. -/
import Derived.Test.YtnegedbjcjfndaaS
namespace Go.Proofs.Ytnegedbjcjfndaa
open Go.AX
set_option maxRecDepth 100000

def L_so : Frame' → Store → T (Exit × Frame' × Store) := fun fr σ => match fr.getD 1 .undef, fr.getD 5 .undef, fr.getD 6 .undef, fr.getD 7 .undef, σ with
  | AV.dat (D.slc (Sh.agg [Sh.one, Sh.one, Sh.one, Sh.one, Sh.agg [Sh.one, Sh.one], Sh.one]) ds), AV.dat (D.slc (Sh.agg [Sh.one, Sh.one, Sh.one, Sh.one, Sh.agg [Sh.one, Sh.one]]) now), AV.dat (D.int IntKind.i64 th), AV.dat (D.int IntKind.i64 0), [] => .chk (Nat.beq fr.length 167 && (soC ds now th)) (T.bind (.leaf (some 0, mkF 167 [(5, .dat (.slc (.agg [.one, .one, .one, .one, .agg [.one, .one]]) (stN ds now th (endN ds)).2)), (6, .dat (.int .i64 (stN ds now th (endN ds)).1))], [])) fun o => .leaf (outEx o.1, o.2.1, o.2.2))
  | _, _, _, _, _ => .fail
theorem so_sem (lp : Loops) : ∀ fr σ p, (L_so fr σ).run = some p → ∀ (K : Kt) r, K p.1 p.2.1 p.2.2 = some r → ∃ n, loopRun (envOf tab SpS [] ((17, L_si) :: lp) HQ) Try.f5 0 σ.length n (cleanF (liveAt Try.f5 0) 0 fr) σ K = some r := by
  intro fr σ p h K r hK
  unfold L_so at h
  split at h
  · rename_i ds now th g1 g5 g6 g7
    obtain ⟨hc, h'⟩ := T.chk_some h
    rw [Bool.and_eq_true] at hc
    obtain ⟨hl, hc⟩ := hc
    obtain ⟨o, ho, h'⟩ := T.bind_some h'
    have hp := T.leaf_some h'
    subst hp
    obtain ⟨nF, hn⟩ : ∃ nF, (iterT (so_step ds) nF ((0, th, now))).run = T.run (.leaf (some 0, mkF 167 [(5, .dat (.slc (.agg [.one, .one, .one, .one, .agg [.one, .one]]) (stN ds now th (endN ds)).2)), (6, .dat (.int .i64 (stN ds now th (endN ds)).1))], [])) := so_closed ds now th hc
    rw [ho] at hn
    refine ⟨nF, ?_⟩
    have he : cleanF (liveAt Try.f5 0) 0 fr = so_fr ds ((0, th, now)) := so_enter ds _ _ _ fr hl g1 g5 g6 g7
    refine (iter_ok (base := 0) (so_hr lp ds) K nF ((0, th, now)) _ _ (by rw [clean_clean]; exact he) (by kernel_rfl)).trans ?_
    rw [T.k_run hn]
    exact hK
  · simp [T.run_fail] at h
theorem so_loopOk (lp : Loops) (hk : Loops.get lp 4 = some L_so) : LoopOk (envOf tab SpS [] ((17, L_si) :: lp) HQ) (loopAt Try.f5 0).1 (loopAt Try.f5 0).2 := loop_ok (L := L_so) hk (so_sem lp)

/-- In hand, of the accounts before w. -/
def isW (w : Nat) (d : D) : Bool := fU d && (fK d == 1 && (fA d == 0 && (fB d == 0 && (decide (0 ≤ fW d) && decide (fW d < (w : Int))))))
def hW (ls : List D) (w : Nat) (j : Nat) : Int := bif isW w (nthD ls j) then 1 else 0
def hN (ls : List D) (w : Nat) : Int := sumR (hW ls w) ls.length
def lY (ls : List D) (j : Nat) : Int := bif fU (nthD ls j) && fK (nthD ls j) != 1 then 1 else 0
def lN (ls : List D) (k : Nat) : Int := sumR (lY ls) k
theorem hW_bd (ls : List D) (w j : Nat) : 0 ≤ hW ls w j ∧ hW ls w j ≤ 1 := by
  unfold hW
  cases isW w (nthD ls j) <;> decide
theorem lY_bd (ls : List D) (j : Nat) : 0 ≤ lY ls j ∧ lY ls j ≤ 1 := by
  unfold lY
  cases fU (nthD ls j) && fK (nthD ls j) != 1 <;> decide
theorem hN_zero (ls : List D) : hN ls 0 = 0 := by
  unfold hN
  rw [show sumR (hW ls 0) ls.length = sumR (fun _ => 0) ls.length from sumR_ext fun j _ => ?_, sumR_zero]
  unfold hW isW
  cases hb : fU (nthD ls j) && (fK (nthD ls j) == 1 && (fA (nthD ls j) == 0 && (fB (nthD ls j) == 0 && (decide (0 ≤ fW (nthD ls j)) && decide (fW (nthD ls j) < ((0 : Nat) : Int)))))) with
  | false => rfl
  | true => simp only [Bool.and_eq_true, decide_eq_true_eq] at hb; omega
theorem hN_step (ls : List D) (w : Nat) : hN ls w + ((held_v0 ls (w : Int)).length : Int) = hN ls (w + 1) := by
  unfold held_v0
  rw [seg_full]
  unfold slTo hN
  rw [col_sum, ← sumR_add]
  refine sumR_ext fun j _ => ?_
  unfold isB hW isW
  generalize fU (nthD ls j) = u
  generalize (fK (nthD ls j) == 1) = k
  generalize (fA (nthD ls j) == 0) = a
  generalize (fB (nthD ls j) == 0) = b
  generalize fW (nthD ls j) = x
  cases u <;> cases k <;> cases a <;> cases b <;> try (simp; done)
  by_cases h1 : x = (w : Int)
  · subst h1
    have e3 : decide ((w : Int) < ((w + 1 : Nat) : Int)) = true := decide_eq_true (by omega)
    rw [e3]; simp
  · have e1 : (x == (w : Int)) = false := by simpa using h1
    have e2 : decide (x < ((w + 1 : Nat) : Int)) = decide (x < (w : Int)) := decide_eq_decide.2 (by omega)
    rw [e1, e2]; simp
abbrev shC (now : List D) : Bool := okEs now && decide (now.length ≤ 12)
theorem sh_closed (now : List D) (th : Int) (hc : shC now = true) : ∃ z, (iterT (sh_step now th) z (0, 0)).run = T.run (.leaf (some 4, mkF 167 [(5, .dat (.slc (.agg [.one, .one, .one, .one, .agg [.one, .one]]) now)), (6, .dat (.int .i64 th)), (11, .dat (.int .i64 (hN now 128)))], [])) := by
  simp only [shC, Bool.and_eq_true, decide_eq_true_eq] at hc
  obtain ⟨hE, hl⟩ := hc
  rw [show ((0 : Int), (0 : Int)) = ((0 : Int), hN now 0) by rw [hN_zero]]
  refine iter_range (n := 128) (fun w => hN now w) (fun w hw => ?_) ?_
  · have hs := hN_step now w
    have b1 := sumR_bd (hW_bd now (w + 1)) now.length
    have sp : slots_pre now 1 (w : Int) 0 0 = true := by
      unfold slots_pre
      rw [hE, decide_eq_true rfl, beq_self]; rfl
    have e : IntKind.wrap .i64 (hN now w + ((held_v0 now (w : Int)).length : Int)) = hN now (w + 1) := by
      rw [hs, IntKind.wrap_i64]
      unfold hN
      omega
    unfold sh_step
    simp only [decide_eq_true (show (w : Int) < 128 by omega), sp, e, wrap_succ (show w < 2 ^ 62 by omega), Bool.not_true, Bool.false_or, T.run_br, T.run_chk, T.run_leaf, cond_true, cond_false]
  · unfold sh_step
    rfl
def L_sh : Frame' → Store → T (Exit × Frame' × Store) := fun fr σ => match fr.getD 5 .undef, fr.getD 6 .undef, fr.getD 11 .undef, fr.getD 12 .undef, σ with
  | AV.dat (D.slc (Sh.agg [Sh.one, Sh.one, Sh.one, Sh.one, Sh.agg [Sh.one, Sh.one]]) now), AV.dat (D.int IntKind.i64 th), AV.dat (D.int IntKind.i64 0), AV.dat (D.int IntKind.i64 0), [] => .chk (Nat.beq fr.length 167 && (shC now)) (T.bind (.leaf (some 4, mkF 167 [(5, .dat (.slc (.agg [.one, .one, .one, .one, .agg [.one, .one]]) now)), (6, .dat (.int .i64 th)), (11, .dat (.int .i64 (hN now 128)))], [])) fun o => .leaf (outEx o.1, o.2.1, o.2.2))
  | _, _, _, _, _ => .fail
theorem sh_sem (lp : Loops) : ∀ fr σ p, (L_sh fr σ).run = some p → ∀ (K : Kt) r, K p.1 p.2.1 p.2.2 = some r → ∃ n, loopRun (envOf tab SpS [] lp HQ) Try.f5 2 σ.length n (cleanF (liveAt Try.f5 2) 0 fr) σ K = some r := by
  intro fr σ p h K r hK
  unfold L_sh at h
  split at h
  · rename_i now th g5 g6 g11 g12
    obtain ⟨hc, h'⟩ := T.chk_some h
    rw [Bool.and_eq_true] at hc
    obtain ⟨hl, hc⟩ := hc
    obtain ⟨o, ho, h'⟩ := T.bind_some h'
    have hp := T.leaf_some h'
    subst hp
    obtain ⟨nF, hn⟩ : ∃ nF, (iterT (sh_step now th) nF ((0, 0))).run = T.run (.leaf (some 4, mkF 167 [(5, .dat (.slc (.agg [.one, .one, .one, .one, .agg [.one, .one]]) now)), (6, .dat (.int .i64 th)), (11, .dat (.int .i64 (hN now 128)))], [])) := sh_closed now th hc
    rw [ho] at hn
    refine ⟨nF, ?_⟩
    have he : cleanF (liveAt Try.f5 2) 0 fr = sh_fr now th ((0, 0)) := sh_enter now th _ _ fr hl g5 g6 g11 g12
    refine (iter_ok (base := 0) (sh_hr lp now th) K nF ((0, 0)) _ _ (by rw [clean_clean]; exact he) (by kernel_rfl)).trans ?_
    rw [T.k_run hn]
    exact hK
  · simp [T.run_fail] at h
theorem sh_loopOk (lp : Loops) (hk : Loops.get lp 24 = some L_sh) : LoopOk (envOf tab SpS [] lp HQ) (loopAt Try.f5 2).1 (loopAt Try.f5 2).2 := loop_ok (L := L_sh) hk (sh_sem lp)

theorem sy_closed (now : List D) (th hx : Int) (hc : shC now = true) : ∃ z, (iterT (sy_step now th hx) z (0, 0)).run = T.run (.leaf (some 6, mkF 167 [(6, .dat (.int .i64 th)), (11, .dat (.int .i64 hx)), (13, .dat (.int .i64 (lN now now.length)))], [])) := by
  simp only [shC, Bool.and_eq_true, decide_eq_true_eq] at hc
  obtain ⟨hE, hl⟩ := hc
  obtain ⟨g1, _⟩ := okEs_spec hE
  refine iter_range (n := now.length) (fun k => lN now k) (fun k hk => ?_) ?_
  · have b1 := sumR_bd (lY_bd now) k
    have e0 : lN now (k + 1) = lN now k + lY now k := rfl
    have e : IntKind.wrap .i64 (lN now k + 1) = lN now k + 1 := by
      rw [IntKind.wrap_i64]
      unfold lN
      omega
    rw [e0]
    unfold lY fU fK
    unfold sy_step
    simp only [decide_eq_true (show (k : Int) < (now.length : Int) by omega), decide_eq_true (show (0 : Int) ≤ (k : Int) by omega), Int.toNat_natCast, decide_eq_true hk, allE_nth g1 hk, e, wrap_succ (show k < 2 ^ 62 by omega), Bool.not_true, Bool.false_or, Bool.true_and, T.run_br, T.run_chk, T.run_leaf, cond_true, cond_false]
    generalize D.getB (nthD (D.getL (nthD now k)) 0) = u
    generalize (D.getI (nthD (D.getL (nthD now k)) 2) != 1) = v
    cases u <;> cases v <;> simp
  · unfold sy_step
    simp only [decide_eq_false (show ¬ (now.length : Int) < (now.length : Int) by omega)]
    rfl
def L_sy : Frame' → Store → T (Exit × Frame' × Store) := fun fr σ => match fr.getD 5 .undef, fr.getD 6 .undef, fr.getD 11 .undef, fr.getD 13 .undef, fr.getD 14 .undef, σ with
  | AV.dat (D.slc (Sh.agg [Sh.one, Sh.one, Sh.one, Sh.one, Sh.agg [Sh.one, Sh.one]]) now), AV.dat (D.int IntKind.i64 th), AV.dat (D.int IntKind.i64 hx), AV.dat (D.int IntKind.i64 0), AV.dat (D.int IntKind.i64 0), [] => .chk (Nat.beq fr.length 167 && (shC now)) (T.bind (.leaf (some 6, mkF 167 [(6, .dat (.int .i64 th)), (11, .dat (.int .i64 hx)), (13, .dat (.int .i64 (lN now now.length)))], [])) fun o => .leaf (outEx o.1, o.2.1, o.2.2))
  | _, _, _, _, _, _ => .fail
theorem sy_sem (lp : Loops) : ∀ fr σ p, (L_sy fr σ).run = some p → ∀ (K : Kt) r, K p.1 p.2.1 p.2.2 = some r → ∃ n, loopRun (envOf tab SpS [] lp HQ) Try.f5 3 σ.length n (cleanF (liveAt Try.f5 3) 0 fr) σ K = some r := by
  intro fr σ p h K r hK
  unfold L_sy at h
  split at h
  · rename_i now th hx g5 g6 g11 g13 g14
    obtain ⟨hc, h'⟩ := T.chk_some h
    rw [Bool.and_eq_true] at hc
    obtain ⟨hl, hc⟩ := hc
    obtain ⟨o, ho, h'⟩ := T.bind_some h'
    have hp := T.leaf_some h'
    subst hp
    obtain ⟨nF, hn⟩ : ∃ nF, (iterT (sy_step now th hx) nF ((0, 0))).run = T.run (.leaf (some 6, mkF 167 [(6, .dat (.int .i64 th)), (11, .dat (.int .i64 hx)), (13, .dat (.int .i64 (lN now now.length)))], [])) := sy_closed now th hx hc
    rw [ho] at hn
    refine ⟨nF, ?_⟩
    have he : cleanF (liveAt Try.f5 3) 0 fr = sy_fr now th hx ((0, 0)) := sy_enter now th hx _ _ fr hl g5 g6 g11 g13 g14
    refine (iter_ok (base := 0) (sy_hr lp now th hx) K nF ((0, 0)) _ _ (by rw [clean_clean]; exact he) (by kernel_rfl)).trans ?_
    rw [T.k_run hn]
    exact hK
  · simp [T.run_fail] at h
theorem sy_loopOk (lp : Loops) (hk : Loops.get lp 29 = some L_sy) : LoopOk (envOf tab SpS [] lp HQ) (loopAt Try.f5 3).1 (loopAt Try.f5 3).2 := loop_ok (L := L_sy) hk (sy_sem lp)


end Go.Proofs.Ytnegedbjcjfndaa
