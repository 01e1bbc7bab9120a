/- Seat 07: DiskKeeps' loops, closed. -/
import Derived.Test.YthhipekbkodjoaaW
namespace Go.Proofs.Ythhipekbkodjoaa
open Go.AX
set_option maxRecDepth 100000
def kpS (k : Nat) (at_ : Int) (l ws : List D) : Nat → Int × List D × List D
  | 0 => (0, [], ws)
  | i + 1 => ((bif write_v0 k (kb (nthD l i)) (-1) (kn (nthD l i)) false == 0 then bif kn (nthD l i) == at_ then (kpS k at_ l ws i).1 + 1 else (kpS k at_ l ws i).1 else (kpS k at_ l ws i).1),
      (bif write_v0 k (kb (nthD l i)) (-1) (kn (nthD l i)) false == 0 then bif kn (nthD l i) == at_ then kb (nthD l i) else (kpS k at_ l ws i).2.1 else (kpS k at_ l ws i).2.1),
      write_v1 k (kpS k at_ l ws i).2.2 (kb (nthD l i)) (kn (nthD l i)) false)
theorem kp_f (k : Nat) (b : List D) (n : Int) : write_v2 k b (-1) n false = -1 ∧ write_v3 k b (-1) n false = false := by
  unfold write_v2 write_v3
  cases able_v0 k n false != 0 with
  | true => exact ⟨rfl, rfl⟩
  | false => cases ((b.length : Int) != 128) <;> exact ⟨rfl, rfl⟩
theorem kpS_mn (k : Nat) (at_ : Int) (l ws : List D) : ∀ i : Nat, 0 ≤ (kpS k at_ l ws i).1 ∧ (kpS k at_ l ws i).1 ≤ (i : Int)
  | 0 => by rw [kpS]; omega
  | i + 1 => by
    have ih := kpS_mn k at_ l ws i
    rw [kpS]
    simp only
    cases write_v0 k (kb (nthD l i)) (-1) (kn (nthD l i)) false == 0 with
    | true => cases kn (nthD l i) == at_ <;> simp only [cond_true, cond_false] <;> omega
    | false => simp only [cond_false]; omega
theorem kpS_ok {k j : Nat} {at_ : Int} {l ws sf : List D} (h : OkA k j ws sf) (hl : l.all okDeed = true) : ∀ i, i ≤ l.length → j + i ≤ 1000 → OkA k (j + i) (kpS k at_ l ws i).2.2 sf
  | 0, _, _ => h
  | i + 1, hi, hj => by
    have hw := List.all_eq_true.1 hl _ (nthD_mem (show i < l.length by omega))
    simp only [okDeed, Bool.and_eq_true] at hw
    exact (op_write (kpS_ok h hl i (by omega) (by omega)) (by omega) (okU8_bytes hw.2) (-1) (kn (nthD l i)) false).2.2.2.2.2.2.2
abbrev kpC (m k : Nat) (l ws sf : List D) (f : Int) (u : Bool) : Bool := Nat.beq m k && okAB k 900 ws sf && (f == -1) && !u && l.all okDeed
theorem kp_closed (m k : Nat) (c at_ : Int) (l ch sf ws : List D) (f : Int) (u : Bool) (hc : kpC m k l ws sf f u = true) :
    ∃ z, (iterT (kp_step m k c at_ l ch sf) z (0, 0, [], ws, f, u)).run = T.run (.leaf (some 0, mkF 146 [(1, .dat (.int .u8 c)), (3, .dat (.slc .one ch)), (9, dP), (11, .dat (.int .i64 at_)), (12, .dat (.int .i64 (kpS k at_ l ws (min l.length 40)).1)), (13, .dat (.slc .one (kpS k at_ l ws (min l.length 40)).2.1))], [dB k k (kpS k at_ l ws (min l.length 40)).2.2 (-1) false, sB sf])) := by
  simp only [kpC, Bool.and_eq_true, okAB_iff, beq_iff_eq, Nat.beq_eq, Bool.not_eq_true'] at hc
  obtain ⟨⟨⟨⟨rfl, h⟩, rfl⟩, rfl⟩, hl⟩ := hc
  refine iter_range (n := min l.length 40) (fun i => ((kpS m at_ l ws i).1, (kpS m at_ l ws i).2.1, (kpS m at_ l ws i).2.2, (-1 : Int), false)) (fun i hi => ?_) ?_
  · have hA := kpS_ok (at_ := at_) h hl i (by omega) (by omega)
    have hm := kpS_mn m at_ l ws i
    rw [kpS]
    generalize kpS m at_ l ws i = p at *
    obtain ⟨mn, la, ws⟩ := p
    simp only at hm hA
    have hw := List.all_eq_true.1 hl _ (nthD_mem (show i < l.length by omega))
    simp only [okDeed, Bool.and_eq_true] at hw
    have w1 := (op_write hA (by omega) (okU8_bytes hw.2) (-1) (kn (nthD l i)) false).1
    obtain ⟨w2, w3⟩ := kp_f m (kb (nthD l i)) (kn (nthD l i))
    have hwr : IntKind.wrap .i64 (mn + 1) = mn + 1 := by rw [IntKind.wrap_i64]; omega
    unfold kp_step
    simp only [Int.toNat_natCast, decide_eq_true (show (i : Int) < (l.length : Int) by omega), decide_eq_true (show (i : Int) < 40 by omega), decide_eq_true (show (0 : Int) ≤ (i : Int) by omega), decide_eq_true (show i < l.length by omega), hw.1, w1, w2, w3, hwr, wrap_succ (show i < 2 ^ 62 by omega), Bool.not_true, Bool.false_or, Bool.and_true, Bool.or_true, T.run_chk, T.run_br, T.run_leaf, cond_true, cond_false]
  · unfold kp_step
    by_cases h2 : l.length < 40
    · rw [show min l.length 40 = l.length by omega]
      simp only [decide_eq_false (show ¬ (l.length : Int) < (l.length : Int) by omega)]
      rfl
    · rw [show min l.length 40 = 40 by omega]
      simp only [decide_eq_false (show ¬ ((40 : Nat) : Int) < 40 by omega), Bool.not_false, Bool.or_true, Bool.true_or, T.run_chk, T.run_br, cond_true]
      rfl
def L_kp : Frame' → Store → T (Exit × Frame' × Store) := fun fr σ => match fr.getD 1 .undef, fr.getD 3 .undef, fr.getD 2 .undef, fr.getD 9 .undef, fr.getD 11 .undef, fr.getD 12 .undef, fr.getD 13 .undef, fr.getD 14 .undef, σ with
  | AV.dat (D.int IntKind.u8 c), AV.dat (D.slc Sh.one ch), AV.dat (D.slc (Sh.agg [Sh.one, Sh.one, Sh.one]) l), AV.ptr (Sh.agg [Sh.one, Sh.one, Sh.one, Sh.one]) 0 0 [], AV.dat (D.int IntKind.i64 at_), AV.dat (D.int IntKind.i64 0), AV.dat (D.slc Sh.one []), AV.dat (D.int IntKind.i64 0), [{ sh := Sh.agg [Sh.one, Sh.one, Sh.one, Sh.one], dyn := false, frz := false, v := AV.agg [AV.sref (Sh.arr Sh.one 128) 1 m [] 0 k, AV.dat (D.slc (Sh.agg [Sh.one, Sh.arr Sh.one 128]) ws), AV.dat (D.int IntKind.i64 f), AV.dat (D.bool u)] }, { sh := Sh.arr (Sh.arr Sh.one 128) 0, dyn := true, frz := false, v := AV.dat (D.arr (Sh.arr Sh.one 128) sf) }] => .chk (Nat.beq fr.length 146 && (kpC m k l ws sf f u)) (T.bind (.leaf (some 0, mkF 146 [(1, .dat (.int .u8 c)), (3, .dat (.slc .one ch)), (9, dP), (11, .dat (.int .i64 at_)), (12, .dat (.int .i64 (kpS k at_ l ws (min l.length 40)).1)), (13, .dat (.slc .one (kpS k at_ l ws (min l.length 40)).2.1))], [dB k k (kpS k at_ l ws (min l.length 40)).2.2 (-1) false, sB sf])) fun o => .leaf (outEx o.1, o.2.1, o.2.2))
  | _, _, _, _, _, _, _, _, _ => .fail
theorem kp_sem (lp : Loops) : ∀ fr σ p, (L_kp fr σ).run = some p → ∀ (K : Kt) r, K p.1 p.2.1 p.2.2 = some r → ∃ n, loopRun (envOf tab SpK [] lp HK) Try.f5 0 σ.length n (cleanF (liveAt Try.f5 0) 0 fr) σ K = some r := by
  intro fr σ p h K r hK
  unfold L_kp at h
  split at h
  · rename_i c ch l at_ m k ws f u sf g1 g3 g2 g9 g11 g12 g13 g14
    obtain ⟨hc, h'⟩ := T.chk_some h
    rw [Bool.and_eq_true] at hc
    obtain ⟨hl, hc⟩ := hc
    obtain ⟨o, ho, h'⟩ := T.bind_some h'
    have hp := T.leaf_some h'
    subst hp
    obtain ⟨nF, hn⟩ : ∃ nF, (iterT (kp_step m k c at_ l ch sf) nF ((0, 0, [], ws, f, u))).run = T.run (.leaf (some 0, mkF 146 [(1, .dat (.int .u8 c)), (3, .dat (.slc .one ch)), (9, dP), (11, .dat (.int .i64 at_)), (12, .dat (.int .i64 (kpS k at_ l ws (min l.length 40)).1)), (13, .dat (.slc .one (kpS k at_ l ws (min l.length 40)).2.1))], [dB k k (kpS k at_ l ws (min l.length 40)).2.2 (-1) false, sB sf])) := kp_closed m k c at_ l ch sf ws f u hc
    rw [ho] at hn
    refine ⟨nF, ?_⟩
    have he : cleanF (liveAt Try.f5 0) 0 fr = kp_fr m k c at_ l ch sf ((0, 0, [], ws, f, u)) := kp_enter m k c at_ l ch sf _ _ _ _ _ _ fr hl g1 g3 g2 g9 g11 g12 g13 g14
    refine (iter_ok (base := 2) (kp_hr lp m k c at_ l ch sf) K nF ((0, 0, [], ws, f, u)) _ _ (by rw [clean_clean]; exact he) (by kernel_rfl)).trans ?_
    rw [T.k_run hn]
    exact hK
  · simp [T.run_fail] at h
theorem kp_loopOk {k : Nat} (lp : Loops) (hk : Loops.get lp 12 = some L_kp) : LoopOkN Try.prog k (envOf tab SpK [] lp HK) (loopAt Try.f5 0).1 (loopAt Try.f5 0).2 := loop_okN (L := L_kp) (by kernel_rfl) hk (kp_sem lp)
theorem iter_first8 {step : Int → T (Int ⊕ LOut)} {n : Nat} (p : Nat → Bool) (o : Int → LOut)
    (h : ∀ i : Nat, i < n → (step (8 * (i : Int))).run = some (bif p i then .inr (o (8 * (i : Int))) else .inl (8 * ((i + 1 : Nat) : Int))))
    (h' : (step (8 * (n : Int))).run = some (.inr (o (8 * (n : Int))))) : ∃ z, (iterT step z 0).run = some (o (8 * (((List.range n).findIdx p : Nat) : Int))) := by
  have key : ∀ (j i : Nat), i + j = n → (∀ q, q < i → p q = false) → (iterT step (j + 1) (8 * (i : Int))).run = some (o (8 * (((List.range n).findIdx p : Nat) : Int))) := by
    intro j
    induction j with
    | zero =>
      intro i hi hq
      obtain rfl : i = n := by omega
      have e : (List.range i).findIdx p = i := by
        have := List.findIdx_eq_length (p := p) (xs := List.range i)
        rw [List.length_range] at this
        exact this.2 fun x hx => hq x (List.mem_range.1 hx)
      rw [e]; exact iter_out h'
    | succ j ih =>
      intro i hi hq
      have hr := h i (by omega)
      cases hp : p i with
      | true =>
        rw [hp, cond_true] at hr
        have e : (List.range n).findIdx p = i := by
          rw [List.findIdx_eq (by rw [List.length_range]; omega)]
          simp only [List.getElem_range]
          exact ⟨hp, fun q hq' => hq q hq'⟩
        rw [e]; exact iter_out hr
      | false =>
        rw [hp, cond_false] at hr
        refine iter_next hr (ih (i + 1) (by omega) fun q hq' => ?_)
        rcases Nat.lt_succ_iff_lt_or_eq.1 hq' with h1 | rfl
        · exact hq q h1
        · exact hp
  exact ⟨n + 1, key n 0 (by omega) fun q hq => by omega⟩
def ktP (mn : Int) (la b : List D) (i : Nat) : Bool := !(mn == 1) || !decide (byteVs (seg b (8 * i) 8) = byteVs (seg la (8 * i) 8))
def ktT (mn : Int) (la b : List D) : Int := 8 * (((List.range 16).findIdx (ktP mn la b) : Nat) : Int)
theorem isBytes_seg {b : List D} (h : isBytes b = true) (o n : Nat) : isBytes (seg b o n) = true := by
  unfold seg
  cases Nat.beq o 0 && Nat.beq n b.length with
  | true => exact h
  | false => exact isBytes_take (isBytes_drop h o) n
abbrev ktC (mn : Int) (la b : List D) : Bool := decide (b.length = 128) && isBytes b && (!(mn == 1) || decide (la.length = 128) && isBytes la)
theorem kt_closed (c mn : Int) (la b : List D) (hc : ktC mn la b = true) :
    ∃ z, (iterT (kt_step c mn la b) z 0).run = T.run (.leaf (some 2, mkF 146 [(1, .dat (.int .u8 c)), (15, .dat (.slc .one b)), (17, .dat (.int .i64 (ktT mn la b)))], [])) := by
  simp only [ktC, Bool.and_eq_true, decide_eq_true_eq] at hc
  obtain ⟨⟨h1, h2⟩, h3⟩ := hc
  refine iter_first8 (ktP mn la b) (fun t => (some 2, mkF 146 [(1, .dat (.int .u8 c)), (15, .dat (.slc .one b)), (17, .dat (.int .i64 t))], [])) (fun i hi => ?_) ?_
  · have hw : IntKind.wrap .i64 (8 * (i : Int) + 8) = 8 * ((i + 1 : Nat) : Int) := by rw [IntKind.wrap_i64]; omega
    have e1 : (8 * (i : Int)).toNat = 8 * i := by omega
    have e2 : (8 * ((i + 1 : Nat) : Int)).toNat = 8 * i + 8 := by omega
    have e3 : 8 * i + 8 - 8 * i = 8 := by omega
    unfold kt_step ktP
    simp only [hw, e1, e2, e3, h1, decide_eq_true (show 8 * (i : Int) < 128 by omega), decide_eq_true (show (0 : Int) ≤ 8 * (i : Int) by omega), decide_eq_true (show (0 : Int) ≤ 8 * ((i + 1 : Nat) : Int) by omega), decide_eq_true (show 8 * i ≤ 8 * i + 8 by omega), decide_eq_true (show 8 * i + 8 ≤ 128 by omega), isBytes_seg h2, Bool.true_and, Bool.not_true, Bool.false_or]
    cases hm : mn == 1 with
    | false => rfl
    | true =>
      rw [hm] at h3
      simp only [Bool.not_true, Bool.false_or, Bool.and_eq_true, decide_eq_true_eq] at h3
      simp only [h3.1, decide_eq_true (show 8 * i + 8 ≤ 128 by omega), isBytes_seg h3.2, Bool.true_and, Bool.not_true, Bool.false_or]
      cases decide (byteVs (seg b (8 * i) 8) = byteVs (seg la (8 * i) 8)) <;> rfl
  · unfold kt_step
    rw [decide_eq_false (show ¬ 8 * ((16 : Nat) : Int) < 128 by omega)]
    rfl
def L_kt : Frame' → Store → T (Exit × Frame' × Store) := fun fr σ => match fr.getD 1 .undef, fr.getD 12 .undef, fr.getD 13 .undef, fr.getD 15 .undef, fr.getD 17 .undef, σ with
  | AV.dat (D.int IntKind.u8 c), AV.dat (D.int IntKind.i64 mn), AV.dat (D.slc Sh.one la), AV.dat (D.slc Sh.one b), AV.dat (D.int IntKind.i64 0), [] => .chk (Nat.beq fr.length 146 && (ktC mn la b)) (T.bind (.leaf (some 2, mkF 146 [(1, .dat (.int .u8 c)), (15, .dat (.slc .one b)), (17, .dat (.int .i64 (ktT mn la b)))], [])) fun o => .leaf (outEx o.1, o.2.1, o.2.2))
  | _, _, _, _, _, _ => .fail
theorem kt_sem (lp : Loops) : ∀ fr σ p, (L_kt fr σ).run = some p → ∀ (K : Kt) r, K p.1 p.2.1 p.2.2 = some r → ∃ n, loopRun (envOf tab SpK [] lp HK) Try.f5 1 σ.length n (cleanF (liveAt Try.f5 1) 0 fr) σ K = some r := by
  intro fr σ p h K r hK
  unfold L_kt at h
  split at h
  · rename_i c mn la b g1 g12 g13 g15 g17
    obtain ⟨hc, h'⟩ := T.chk_some h
    rw [Bool.and_eq_true] at hc
    obtain ⟨hl, hc⟩ := hc
    obtain ⟨o, ho, h'⟩ := T.bind_some h'
    have hp := T.leaf_some h'
    subst hp
    obtain ⟨nF, hn⟩ : ∃ nF, (iterT (kt_step c mn la b) nF (0)).run = T.run (.leaf (some 2, mkF 146 [(1, .dat (.int .u8 c)), (15, .dat (.slc .one b)), (17, .dat (.int .i64 (ktT mn la b)))], [])) := kt_closed c mn la b hc
    rw [ho] at hn
    refine ⟨nF, ?_⟩
    have he : cleanF (liveAt Try.f5 1) 0 fr = kt_fr c mn la b (0) := kt_enter c mn la b _ fr hl g1 g12 g13 g15 g17
    refine (iter_ok (base := 0) (kt_hr lp c mn la b) K nF (0) _ _ (by rw [clean_clean]; exact he) (by kernel_rfl)).trans ?_
    rw [T.k_run hn]
    exact hK
  · simp [T.run_fail] at h
theorem kt_loopOk {k : Nat} (lp : Loops) (hk : Loops.get lp 23 = some L_kt) : LoopOkN Try.prog k (envOf tab SpK [] lp HK) (loopAt Try.f5 1).1 (loopAt Try.f5 1).2 := loop_okN (L := L_kt) (by kernel_rfl) hk (kt_sem lp)
abbrev kcC (c : Int) (b : List D) (t : Int) : Bool := decide (b.length = 128) && decide (0 ≤ t) && decide (t ≤ 128) && (b.drop t.toNat).all (D.eqb (.int .u8 c))
theorem kc_closed (c : Int) (b : List D) (t : Int) (hc : kcC c b t = true) : ∃ z, (iterT (kc_step c b) z t).run = T.run (.leaf (some 4, mkF 146 [], [])) := by
  simp only [kcC, Bool.and_eq_true, decide_eq_true_eq] at hc
  obtain ⟨⟨⟨h1, h2⟩, h3⟩, h4⟩ := hc
  obtain ⟨a, rfl⟩ := Int.eq_ofNat_of_zero_le h2
  refine iter_countFrom (a := a) (n := 128) (by omega) (fun i h0 hi => ?_) ?_
  · have hd : nthD b i = .int .u8 c := by
      have hm : nthD b i ∈ b.drop a := by
        rw [List.mem_iff_getElem?]
        exact ⟨i - a, by rw [List.getElem?_drop, show a + (i - a) = i by omega]; exact nthD_some (by omega)⟩
      exact (D.eq_of_eqb (List.all_eq_true.1 h4 _ hm)).symm
    unfold kc_step
    simp only [Int.toNat_natCast, hd, h1, decide_eq_true (show (i : Int) < 128 by omega), decide_eq_true (show (0 : Int) ≤ (i : Int) by omega), decide_eq_true hi, wrap_succ (show i < 2 ^ 62 by omega), Bool.true_and, Bool.not_true, Bool.false_or, D.getI, bne_self_eq_false]
    rfl
  · unfold kc_step
    rw [decide_eq_false (show ¬ ((128 : Nat) : Int) < 128 by omega)]
    rfl
def L_kc : Frame' → Store → T (Exit × Frame' × Store) := fun fr σ => match fr.getD 1 .undef, fr.getD 15 .undef, fr.getD 18 .undef, σ with
  | AV.dat (D.int IntKind.u8 c), AV.dat (D.slc Sh.one b), AV.dat (D.int IntKind.i64 t), [] => .chk (Nat.beq fr.length 146 && (kcC c b t)) (T.bind (.leaf (some 4, mkF 146 [], [])) fun o => .leaf (outEx o.1, o.2.1, o.2.2))
  | _, _, _, _ => .fail
theorem kc_sem (lp : Loops) : ∀ fr σ p, (L_kc fr σ).run = some p → ∀ (K : Kt) r, K p.1 p.2.1 p.2.2 = some r → ∃ n, loopRun (envOf tab SpK [] lp HK) Try.f5 2 σ.length n (cleanF (liveAt Try.f5 2) 0 fr) σ K = some r := by
  intro fr σ p h K r hK
  unfold L_kc at h
  split at h
  · rename_i c b t g1 g15 g18
    obtain ⟨hc, h'⟩ := T.chk_some h
    rw [Bool.and_eq_true] at hc
    obtain ⟨hl, hc⟩ := hc
    obtain ⟨o, ho, h'⟩ := T.bind_some h'
    have hp := T.leaf_some h'
    subst hp
    obtain ⟨nF, hn⟩ : ∃ nF, (iterT (kc_step c b) nF (t)).run = T.run (.leaf (some 4, mkF 146 [], [])) := kc_closed c b t hc
    rw [ho] at hn
    refine ⟨nF, ?_⟩
    have he : cleanF (liveAt Try.f5 2) 0 fr = kc_fr c b (t) := kc_enter c b _ fr hl g1 g15 g18
    refine (iter_ok (base := 0) (kc_hr lp c b) K nF (t) _ _ (by rw [clean_clean]; exact he) (by kernel_rfl)).trans ?_
    rw [T.k_run hn]
    exact hK
  · simp [T.run_fail] at h
theorem kc_loopOk {k : Nat} (lp : Loops) (hk : Loops.get lp 26 = some L_kc) : LoopOkN Try.prog k (envOf tab SpK [] lp HK) (loopAt Try.f5 2).1 (loopAt Try.f5 2).2 := loop_okN (L := L_kc) (by kernel_rfl) hk (kc_sem lp)
theorem ks_loops : ∀ x ∈ fnLoops Try.f5, LoopOk Try.prog (envOf tab SpK [] [(12, L_kp), (23, L_kt), (26, L_kc)] HK) x.1 x.2 := loops_all 3 (by kernel_rfl) fun i hi => match i, hi with
  | 0, _ => kp_loopOk _ rfl
  | 1, _ => kt_loopOk _ rfl
  | 2, _ => kc_loopOk _ rfl
abbrev ks_E : Env := envOf tab SpK [] [(12, L_kp), (23, L_kt), (26, L_kc)] HK
def ks_F0 (n c : Int) (l ch : List D) : Frame' := mkF 146 [(0, .dat (.int .i64 n)), (1, .dat (.int IntKind.u8 c)), (2, .dat (.slc (s36) l)), (3, .dat (.slc Sh.one ch))]
def ks_T0 (_n _c : Int) (_l _ch : List D) : Store := []
theorem ks_start (n c : Int) (l ch : List D) : runF (envOf tab SpK [] [(12, L_kp), (23, L_kt), (26, L_kc)] HK) true Try.f5 [.dat (.int .i64 n), .dat (.int .u8 c), .dat (.slc s36 l), .dat (.slc .one ch)] [] = ex (Env.rebase (ks_E) 0) [8] (sqR 0 (bodyOf Try.f5)) [] [8] (ks_F0 n c l ch) (ks_T0 n c l ch) (finK (ks_E) true Try.f5 (callFin [] [])) := run_start (ρ := []) (args' := [.dat (.int .i64 n), .dat (.int IntKind.u8 c), .dat (.slc (s36) l), .dat (.slc Sh.one ch)]) (by kernel_rfl) (by kernel_rfl) (by kernel_rfl) (by kernel_rfl) (by kernel_rfl) (by kernel_rfl) (by kernel_rfl) (by kernel_rfl) (by kernel_rfl)
theorem ks_q0 (n c : Int) (l ch : List D) (K : Kt) : ex (Env.rebase (ks_E) 0) [8] (sqA (sqR 0 (bodyOf Try.f5))) [] [0, 2, 3, 1] (ks_F0 n c l ch) (ks_T0 n c l ch) K = K .normal (mkF 146 [(0, .dat (.int .i64 n)), (1, .dat (.int IntKind.u8 c)), (2, .dat (.slc (s36) l)), (3, .dat (.slc Sh.one ch)), (8, .dat (.bool false))]) ([]) := by kernel_rfl
def ks_F1 (n c : Int) (l ch : List D) : Frame' := mkF 146 [(0, .dat (.int .i64 n)), (1, .dat (.int IntKind.u8 c)), (2, .dat (.slc (s36) l)), (3, .dat (.slc Sh.one ch)), (8, .dat (.bool false))]
def ks_T1 (_n _c : Int) (_l _ch : List D) : Store := []
theorem ks_s0 (n c : Int) (l ch : List D) (K : Kt) : ex (Env.rebase (ks_E) 0) [8] (sqR 0 (bodyOf Try.f5)) [] [8] (ks_F0 n c l ch) (ks_T0 n c l ch) K = ex (Env.rebase (ks_E) 0) [8] (sqR 1 (bodyOf Try.f5)) [] [8] (ks_F1 n c l ch) (ks_T1 n c l ch) K := (seg_str (c := (sqR 0 (bodyOf Try.f5))) (a := sqA (sqR 0 (bodyOf Try.f5))) (b := (sqR 1 (bodyOf Try.f5))) (by kernel_rfl) (by kernel_rfl) (by kernel_rfl) (ks_q0 n c l ch) K).trans (seqK_normal (by kernel_rfl) (by kernel_rfl))
theorem ks_q1 (n c : Int) (l ch : List D) (K : Kt) : ex (Env.rebase (ks_E) 0) [8] (sqA (sqR 1 (bodyOf Try.f5))) [] [10, 0, 2, 3, 9, 1] (ks_F1 n c l ch) (ks_T1 n c l ch) K = K .normal (mkF 146 [(0, .dat (.int .i64 n)), (1, .dat (.int IntKind.u8 c)), (2, .dat (.slc (s36) l)), (3, .dat (.slc Sh.one ch)), (8, .dat (.bool false)), (9, AV.ptr (s61) 0 0 []), (10, .dat (.int .i64 0)), (19, AV.tup [AV.ptr (s61) 0 0 [], .dat (.int .i64 0)]), (20, AV.tup [AV.ptr (s61) 0 0 [], .dat (.int .i64 0)]), (21, AV.ptr (s61) 0 0 []), (22, .dat (.int .i64 0))]) ([{ sh := s61, dyn := false, frz := false, v := AV.agg [AV.sref (Sh.arr Sh.one 128) 1 6 [] 0 6, .dat (.slc (s67) []), .dat (.int .i64 (-1 : Int)), .dat (.bool false)] }, { sh := Sh.arr (Sh.arr Sh.one 128) 0, dyn := true, frz := false, v := .dat (.arr (Sh.arr Sh.one 128) (new_v0 6)) }]) := by kernel_rfl
def ks_F2 (n c : Int) (l ch : List D) : Frame' := mkF 146 [(0, .dat (.int .i64 n)), (1, .dat (.int IntKind.u8 c)), (2, .dat (.slc (s36) l)), (3, .dat (.slc Sh.one ch)), (8, .dat (.bool false)), (9, AV.ptr (s61) 0 0 []), (10, .dat (.int .i64 0)), (19, AV.tup [AV.ptr (s61) 0 0 [], .dat (.int .i64 0)]), (20, AV.tup [AV.ptr (s61) 0 0 [], .dat (.int .i64 0)]), (21, AV.ptr (s61) 0 0 []), (22, .dat (.int .i64 0))]
def ks_T2 (_n _c : Int) (_l _ch : List D) : Store := [{ sh := s61, dyn := false, frz := false, v := AV.agg [AV.sref (Sh.arr Sh.one 128) 1 6 [] 0 6, .dat (.slc (s67) []), .dat (.int .i64 (-1 : Int)), .dat (.bool false)] }, { sh := Sh.arr (Sh.arr Sh.one 128) 0, dyn := true, frz := false, v := .dat (.arr (Sh.arr Sh.one 128) (new_v0 6)) }]
theorem ks_s1 (n c : Int) (l ch : List D) (K : Kt) : ex (Env.rebase (ks_E) 0) [8] (sqR 1 (bodyOf Try.f5)) [] [8] (ks_F1 n c l ch) (ks_T1 n c l ch) K = ex (Env.rebase (ks_E) 0) [8] (sqR 2 (bodyOf Try.f5)) [] [8] (ks_F2 n c l ch) (ks_T2 n c l ch) K := (seg_str (c := (sqR 1 (bodyOf Try.f5))) (a := sqA (sqR 1 (bodyOf Try.f5))) (b := (sqR 2 (bodyOf Try.f5))) (by kernel_rfl) (by kernel_rfl) (by kernel_rfl) (ks_q1 n c l ch) K).trans (seqK_normal (by kernel_rfl) (by kernel_rfl))
theorem ks_q2 (n c : Int) (l ch : List D) (J : List AV → Store → Option Res) (K : Kt) : ex (Env.rebase (ks_E) 2) [8] (sqA (sqR 2 (bodyOf Try.f5))) [] [0, 2, 3, 9, 1] (ks_F2 n c l ch) (ks_T2 n c l ch) (jK [] J K) = J ([]) ([{ sh := s61, dyn := false, frz := false, v := AV.agg [AV.sref (Sh.arr Sh.one 128) 1 6 [] 0 6, .dat (.slc (s67) []), .dat (.int .i64 (-1 : Int)), .dat (.bool false)] }, { sh := Sh.arr (Sh.arr Sh.one 128) 0, dyn := true, frz := false, v := .dat (.arr (Sh.arr Sh.one 128) (new_v0 6)) }]) := by kernel_rfl
def ks_F3 (n c : Int) (l ch : List D) : Frame' := mkF 146 [(0, .dat (.int .i64 n)), (1, .dat (.int IntKind.u8 c)), (2, .dat (.slc (s36) l)), (3, .dat (.slc Sh.one ch)), (9, AV.ptr (s61) 0 0 []), (10, .dat (.int .i64 0)), (19, AV.tup [AV.ptr (s61) 0 0 [], .dat (.int .i64 0)]), (20, AV.tup [AV.ptr (s61) 0 0 [], .dat (.int .i64 0)]), (21, AV.ptr (s61) 0 0 []), (22, .dat (.int .i64 0))]
def ks_T3 (_n _c : Int) (_l _ch : List D) : Store := [{ sh := s61, dyn := false, frz := false, v := AV.agg [AV.sref (Sh.arr Sh.one 128) 1 6 [] 0 6, .dat (.slc (s67) []), .dat (.int .i64 (-1 : Int)), .dat (.bool false)] }, { sh := Sh.arr (Sh.arr Sh.one 128) 0, dyn := true, frz := false, v := .dat (.arr (Sh.arr Sh.one 128) (new_v0 6)) }]
theorem ks_s2 (n c : Int) (l ch : List D) (K : Kt) : ex (Env.rebase (ks_E) 0) [8] (sqR 2 (bodyOf Try.f5)) [] [8] (ks_F2 n c l ch) (ks_T2 n c l ch) K = ex (Env.rebase (ks_E) 0) [8] (sqR 3 (bodyOf Try.f5)) [] [8] (ks_F3 n c l ch) (ks_T3 n c l ch) K := (seg_join (c := (sqR 2 (bodyOf Try.f5))) (a := sqA (sqR 2 (bodyOf Try.f5))) (b := (sqR 3 (bodyOf Try.f5))) (ds := [23, 24, 25, 26, 27, 28, 8]) (by kernel_rfl) (by kernel_rfl) (by kernel_rfl) (by kernel_rfl) (by kernel_rfl) (by kernel_rfl) (ks_q2 n c l ch) K).trans (ex_same (by kernel_rfl) (by kernel_rfl))
theorem ks_q3 (n c : Int) (l ch : List D) (K : Kt) : ex (Env.rebase (ks_E) 0) [8] (sqA (sqR 3 (bodyOf Try.f5))) [] [2, 3, 9, 11, 1] (ks_F3 n c l ch) (ks_T3 n c l ch) K = K .normal (mkF 146 [(0, .dat (.int .i64 n)), (1, .dat (.int IntKind.u8 c)), (2, .dat (.slc (s36) l)), (3, .dat (.slc Sh.one ch)), (9, AV.ptr (s61) 0 0 []), (11, .dat (.int .i64 (Int.tmod n 6))), (29, .dat (.int .i64 n)), (30, .dat (.int .i64 (Int.tmod n 6)))]) ([{ sh := s61, dyn := false, frz := false, v := AV.agg [AV.sref (Sh.arr Sh.one 128) 1 6 [] 0 6, .dat (.slc (s67) []), .dat (.int .i64 (-1 : Int)), .dat (.bool false)] }, { sh := Sh.arr (Sh.arr Sh.one 128) 0, dyn := true, frz := false, v := .dat (.arr (Sh.arr Sh.one 128) (new_v0 6)) }]) := by kernel_rfl
def ks_F4 (n c : Int) (l ch : List D) : Frame' := mkF 146 [(0, .dat (.int .i64 n)), (1, .dat (.int IntKind.u8 c)), (2, .dat (.slc (s36) l)), (3, .dat (.slc Sh.one ch)), (9, AV.ptr (s61) 0 0 []), (11, .dat (.int .i64 (Int.tmod n 6))), (29, .dat (.int .i64 n)), (30, .dat (.int .i64 (Int.tmod n 6)))]
def ks_T4 (_n _c : Int) (_l _ch : List D) : Store := [{ sh := s61, dyn := false, frz := false, v := AV.agg [AV.sref (Sh.arr Sh.one 128) 1 6 [] 0 6, .dat (.slc (s67) []), .dat (.int .i64 (-1 : Int)), .dat (.bool false)] }, { sh := Sh.arr (Sh.arr Sh.one 128) 0, dyn := true, frz := false, v := .dat (.arr (Sh.arr Sh.one 128) (new_v0 6)) }]
theorem ks_s3 (n c : Int) (l ch : List D) (K : Kt) : ex (Env.rebase (ks_E) 0) [8] (sqR 3 (bodyOf Try.f5)) [] [8] (ks_F3 n c l ch) (ks_T3 n c l ch) K = ex (Env.rebase (ks_E) 0) [8] (sqR 4 (bodyOf Try.f5)) [] [8] (ks_F4 n c l ch) (ks_T4 n c l ch) K := (seg_str (c := (sqR 3 (bodyOf Try.f5))) (a := sqA (sqR 3 (bodyOf Try.f5))) (b := (sqR 4 (bodyOf Try.f5))) (by kernel_rfl) (by kernel_rfl) (by kernel_rfl) (ks_q3 n c l ch) K).trans (seqK_normal (by kernel_rfl) (by kernel_rfl))
theorem ks_r4 (n c : Int) (l ch : List D) (J : List AV → Store → Option Res) (K : Kt) : ex (Env.rebase (ks_E) 2) [8] (sqA (sqR 4 (bodyOf Try.f5))) [] [2, 3, 9, 11, 1] (ks_F4 n c l ch) (ks_T4 n c l ch) (jK [11] J K) = (cond (decide (Int.tmod n 6 < 0)) (J ([.dat (.int .i64 (IntKind.wrap IntKind.i64 (Int.tmod n 6 + 6)))]) ([{ sh := s61, dyn := false, frz := false, v := AV.agg [AV.sref (Sh.arr Sh.one 128) 1 6 [] 0 6, .dat (.slc (s67) []), .dat (.int .i64 (-1 : Int)), .dat (.bool false)] }, { sh := Sh.arr (Sh.arr Sh.one 128) 0, dyn := true, frz := false, v := .dat (.arr (Sh.arr Sh.one 128) (new_v0 6)) }])) (J ([.dat (.int .i64 (Int.tmod n 6))]) ([{ sh := s61, dyn := false, frz := false, v := AV.agg [AV.sref (Sh.arr Sh.one 128) 1 6 [] 0 6, .dat (.slc (s67) []), .dat (.int .i64 (-1 : Int)), .dat (.bool false)] }, { sh := Sh.arr (Sh.arr Sh.one 128) 0, dyn := true, frz := false, v := .dat (.arr (Sh.arr Sh.one 128) (new_v0 6)) }]))) := by kernel_rfl
theorem ks_q4 (n c : Int) (l ch : List D) (J : List AV → Store → Option Res) (K : Kt) : ex (Env.rebase (ks_E) 2) [8] (sqA (sqR 4 (bodyOf Try.f5))) [] [2, 3, 9, 11, 1] (ks_F4 n c l ch) (ks_T4 n c l ch) (jK [11] J K) = J ([.dat (.int .i64 (bif decide (Int.tmod n 6 < 0) then IntKind.wrap IntKind.i64 (Int.tmod n 6 + 6) else Int.tmod n 6))]) ([{ sh := s61, dyn := false, frz := false, v := AV.agg [AV.sref (Sh.arr Sh.one 128) 1 6 [] 0 6, .dat (.slc (s67) []), .dat (.int .i64 (-1 : Int)), .dat (.bool false)] }, { sh := Sh.arr (Sh.arr Sh.one 128) 0, dyn := true, frz := false, v := .dat (.arr (Sh.arr Sh.one 128) (new_v0 6)) }]) := (ks_r4 n c l ch J K).trans (by
  generalize (decide (Int.tmod n 6 < 0)) = z0
  cases z0 with
  | true =>
   rfl
  | false =>
   rfl
  )
def ks_w4v0 (n : Int) : Int := bif decide (Int.tmod n 6 < 0) then IntKind.wrap IntKind.i64 (Int.tmod n 6 + 6) else Int.tmod n 6
def ks_F5 (n c : Int) (l ch : List D) : Frame' := mkF 146 [(0, .dat (.int .i64 n)), (1, .dat (.int IntKind.u8 c)), (2, .dat (.slc (s36) l)), (3, .dat (.slc Sh.one ch)), (9, AV.ptr (s61) 0 0 []), (11, .dat (.int .i64 (ks_w4v0 n))), (29, .dat (.int .i64 n)), (30, .dat (.int .i64 (Int.tmod n 6)))]
def ks_T5 (_n _c : Int) (_l _ch : List D) : Store := [{ sh := s61, dyn := false, frz := false, v := AV.agg [AV.sref (Sh.arr Sh.one 128) 1 6 [] 0 6, .dat (.slc (s67) []), .dat (.int .i64 (-1 : Int)), .dat (.bool false)] }, { sh := Sh.arr (Sh.arr Sh.one 128) 0, dyn := true, frz := false, v := .dat (.arr (Sh.arr Sh.one 128) (new_v0 6)) }]
theorem ks_s4 (n c : Int) (l ch : List D) (K : Kt) : ex (Env.rebase (ks_E) 0) [8] (sqR 4 (bodyOf Try.f5)) [] [8] (ks_F4 n c l ch) (ks_T4 n c l ch) K = ex (Env.rebase (ks_E) 0) [8] (sqR 5 (bodyOf Try.f5)) [] [8] (ks_F5 n c l ch) (ks_T5 n c l ch) K := (seg_join (c := (sqR 4 (bodyOf Try.f5))) (a := sqA (sqR 4 (bodyOf Try.f5))) (b := (sqR 5 (bodyOf Try.f5))) (ds := [31, 32, 33, 34, 11]) (by kernel_rfl) (by kernel_rfl) (by kernel_rfl) (by kernel_rfl) (by kernel_rfl) (by kernel_rfl) (ks_q4 n c l ch) K).trans (ex_same (by kernel_rfl) (by kernel_rfl))
theorem ks_r5 (n c : Int) (l ch : List D) (J : List AV → Store → Option Res) (K : Kt) : ex (Env.rebase (ks_E) 2) [8] (sqA (sqR 5 (bodyOf Try.f5))) [] [2, 3, 9, 11, 1] (ks_F5 n c l ch) (ks_T5 n c l ch) (jK [] J K) = (cond (write_pre 6 [] (fillZ c) (ks_w4v0 n) false) ((cond (D.eqb (D.bool (write_v0 6 (fillZ c) (-1 : Int) (ks_w4v0 n) false != 0)) (D.bool false)) ((cond (able_v0 6 0 (write_v3 6 (fillZ c) (-1 : Int) (ks_w4v0 n) false) != 0) ((cond (D.eqb (D.bool (able_v0 6 0 (write_v3 6 (fillZ c) (-1 : Int) (ks_w4v0 n) false) != 0)) (D.bool false)) (J ([]) ([{ sh := s61, dyn := false, frz := false, v := AV.agg [AV.sref (Sh.arr Sh.one 128) 1 6 [] 0 6, .dat (.slc (s67) (write_v1 6 [] (fillZ c) (ks_w4v0 n) false)), .dat (.int .i64 (write_v2 6 (fillZ c) (-1 : Int) (ks_w4v0 n) false)), .dat (.bool (write_v3 6 (fillZ c) (-1 : Int) (ks_w4v0 n) false))] }, { sh := Sh.arr (Sh.arr Sh.one 128) 0, dyn := true, frz := false, v := .dat (.arr (Sh.arr Sh.one 128) (new_v0 6)) }])) (none))) ((cond (burns_v0 (write_v2 6 (fillZ c) (-1 : Int) (ks_w4v0 n) false)) (none) ((cond (flush_pre 6 6 (write_v1 6 [] (fillZ c) (ks_w4v0 n) false) (new_v0 6)) (J ([]) ([{ sh := s61, dyn := false, frz := false, v := AV.agg [AV.sref (Sh.arr Sh.one 128) 1 6 [] 0 6, AV.fslc (s67) [], .dat (.int .i64 (burns_v1 (write_v2 6 (fillZ c) (-1 : Int) (ks_w4v0 n) false))), .dat (.bool (burns_v2 (write_v2 6 (fillZ c) (-1 : Int) (ks_w4v0 n) false) (write_v3 6 (fillZ c) (-1 : Int) (ks_w4v0 n) false)))] }, { sh := Sh.arr (Sh.arr Sh.one 128) 0, dyn := true, frz := false, v := .dat (.arr (Sh.arr Sh.one 128) (List.foldl setW (new_v0 6) (write_v1 6 [] (fillZ c) (ks_w4v0 n) false))) }])) (none))))))) (none))) (none)) := by kernel_rfl
theorem ks_q5 (n c : Int) (l ch : List D) (J : List AV → Store → Option Res) (K : Kt) : ex (Env.rebase (ks_E) 2) [8] (sqA (sqR 5 (bodyOf Try.f5))) [] [2, 3, 9, 11, 1] (ks_F5 n c l ch) (ks_T5 n c l ch) (jK [] J K) = (cond (write_pre 6 [] (fillZ c) (ks_w4v0 n) false && (!write_v0 6 (fillZ c) (-1 : Int) (ks_w4v0 n) false != 0 && (!able_v0 6 0 (write_v3 6 (fillZ c) (-1 : Int) (ks_w4v0 n) false) != 0 && (!burns_v0 (write_v2 6 (fillZ c) (-1 : Int) (ks_w4v0 n) false) && flush_pre 6 6 (write_v1 6 [] (fillZ c) (ks_w4v0 n) false) (new_v0 6))))) (J ([]) ([{ sh := s61, dyn := false, frz := false, v := AV.agg [AV.sref (Sh.arr Sh.one 128) 1 6 [] 0 6, AV.fslc (s67) [], .dat (.int .i64 (burns_v1 (write_v2 6 (fillZ c) (-1 : Int) (ks_w4v0 n) false))), .dat (.bool (burns_v2 (write_v2 6 (fillZ c) (-1 : Int) (ks_w4v0 n) false) (write_v3 6 (fillZ c) (-1 : Int) (ks_w4v0 n) false)))] }, { sh := Sh.arr (Sh.arr Sh.one 128) 0, dyn := true, frz := false, v := .dat (.arr (Sh.arr Sh.one 128) (List.foldl setW (new_v0 6) (write_v1 6 [] (fillZ c) (ks_w4v0 n) false))) }])) none) := (ks_r5 n c l ch J K).trans (by
  generalize (able_v0 6 0 (write_v3 6 (fillZ c) (-1 : Int) (ks_w4v0 n) false) != 0) = z0
  generalize (flush_pre 6 6 (write_v1 6 [] (fillZ c) (ks_w4v0 n) false) (new_v0 6)) = z1
  generalize (write_v0 6 (fillZ c) (-1 : Int) (ks_w4v0 n) false != 0) = z2
  generalize (burns_v0 (write_v2 6 (fillZ c) (-1 : Int) (ks_w4v0 n) false)) = z3
  generalize (write_pre 6 [] (fillZ c) (ks_w4v0 n) false) = z4
  cases z4 with
  | true =>
   cases z2 with
   | true =>
    rfl
   | false =>
    cases z0 with
    | true =>
     rfl
    | false =>
     cases z3 with
     | true =>
      rfl
     | false =>
      cases z1 with
      | true =>
       rfl
      | false =>
       rfl
  | false =>
   rfl
  )
def ks_w5v0 (n : Int) (c : Int) : Bool := burns_v2 (write_v2 6 (fillZ c) (-1 : Int) (ks_w4v0 n) false) (write_v3 6 (fillZ c) (-1 : Int) (ks_w4v0 n) false)
def ks_w5v1 (n : Int) (c : Int) : List D := List.foldl setW (new_v0 6) (write_v1 6 [] (fillZ c) (ks_w4v0 n) false)
def ks_F6 (n c : Int) (l ch : List D) : Frame' := mkF 146 [(0, .dat (.int .i64 n)), (1, .dat (.int IntKind.u8 c)), (2, .dat (.slc (s36) l)), (3, .dat (.slc Sh.one ch)), (9, AV.ptr (s61) 0 0 []), (11, .dat (.int .i64 (ks_w4v0 n))), (29, .dat (.int .i64 n)), (30, .dat (.int .i64 (Int.tmod n 6)))]
def ks_T6 (n c : Int) (_l _ch : List D) : Store := [{ sh := s61, dyn := false, frz := false, v := AV.agg [AV.sref (Sh.arr Sh.one 128) 1 6 [] 0 6, AV.fslc (s67) [], .dat (.int .i64 (burns_v1 (write_v2 6 (fillZ c) (-1 : Int) (ks_w4v0 n) false))), .dat (.bool (ks_w5v0 n c))] }, { sh := Sh.arr (Sh.arr Sh.one 128) 0, dyn := true, frz := false, v := .dat (.arr (Sh.arr Sh.one 128) (ks_w5v1 n c)) }]
def ks_p5 (n : Int) (c : Int) : Bool := write_pre 6 [] (fillZ c) (ks_w4v0 n) false && (!write_v0 6 (fillZ c) (-1 : Int) (ks_w4v0 n) false != 0 && (!able_v0 6 0 (write_v3 6 (fillZ c) (-1 : Int) (ks_w4v0 n) false) != 0 && (!burns_v0 (write_v2 6 (fillZ c) (-1 : Int) (ks_w4v0 n) false) && flush_pre 6 6 (write_v1 6 [] (fillZ c) (ks_w4v0 n) false) (new_v0 6))))
theorem ks_s5 (n c : Int) (l ch : List D) (K : Kt) : ex (Env.rebase (ks_E) 0) [8] (sqR 5 (bodyOf Try.f5)) [] [8] (ks_F5 n c l ch) (ks_T5 n c l ch) K = (cond (ks_p5 n c) (ex (Env.rebase (ks_E) 0) [8] (sqR 6 (bodyOf Try.f5)) [] [8] (ks_F6 n c l ch) (ks_T6 n c l ch) K) none) := (seg_join (c := (sqR 5 (bodyOf Try.f5))) (a := sqA (sqR 5 (bodyOf Try.f5))) (b := (sqR 6 (bodyOf Try.f5))) (ds := [35, 36, 37, 38, 39, 40, 41, 42, 43, 44, 45, 8]) (by kernel_rfl) (by kernel_rfl) (by kernel_rfl) (by kernel_rfl) (by kernel_rfl) (by kernel_rfl) (ks_q5 n c l ch) K).trans (condC (ex_same (by kernel_rfl) (by kernel_rfl)))
theorem ks_q6 (n c : Int) (l ch : List D) (K : Kt) : ex (Env.rebase (ks_E) 0) [8] (sqA (sqR 6 (bodyOf Try.f5))) [] [2, 3, 9, 11, 12, 1] (ks_F6 n c l ch) (ks_T6 n c l ch) K = K .normal (mkF 146 [(1, .dat (.int IntKind.u8 c)), (2, .dat (.slc (s36) l)), (3, .dat (.slc Sh.one ch)), (9, AV.ptr (s61) 0 0 []), (11, .dat (.int .i64 (ks_w4v0 n))), (12, .dat (.int .i64 0))]) ([{ sh := s61, dyn := false, frz := false, v := AV.agg [AV.sref (Sh.arr Sh.one 128) 1 6 [] 0 6, .dat (.slc (s67) []), .dat (.int .i64 (burns_v1 (write_v2 6 (fillZ c) (-1 : Int) (ks_w4v0 n) false))), .dat (.bool (ks_w5v0 n c))] }, { sh := Sh.arr (Sh.arr Sh.one 128) 0, dyn := true, frz := false, v := .dat (.arr (Sh.arr Sh.one 128) (ks_w5v1 n c)) }]) := by kernel_rfl
def ks_F7 (n c : Int) (l ch : List D) : Frame' := mkF 146 [(1, .dat (.int IntKind.u8 c)), (2, .dat (.slc (s36) l)), (3, .dat (.slc Sh.one ch)), (9, AV.ptr (s61) 0 0 []), (11, .dat (.int .i64 (ks_w4v0 n))), (12, .dat (.int .i64 0))]
def ks_T7 (n c : Int) (_l _ch : List D) : Store := [{ sh := s61, dyn := false, frz := false, v := AV.agg [AV.sref (Sh.arr Sh.one 128) 1 6 [] 0 6, .dat (.slc (s67) []), .dat (.int .i64 (burns_v1 (write_v2 6 (fillZ c) (-1 : Int) (ks_w4v0 n) false))), .dat (.bool (ks_w5v0 n c))] }, { sh := Sh.arr (Sh.arr Sh.one 128) 0, dyn := true, frz := false, v := .dat (.arr (Sh.arr Sh.one 128) (ks_w5v1 n c)) }]
theorem ks_s6 (n c : Int) (l ch : List D) (K : Kt) : ex (Env.rebase (ks_E) 0) [8] (sqR 6 (bodyOf Try.f5)) [] [8] (ks_F6 n c l ch) (ks_T6 n c l ch) K = ex (Env.rebase (ks_E) 0) [8] (sqR 7 (bodyOf Try.f5)) [] [8] (ks_F7 n c l ch) (ks_T7 n c l ch) K := (seg_str (c := (sqR 6 (bodyOf Try.f5))) (a := sqA (sqR 6 (bodyOf Try.f5))) (b := (sqR 7 (bodyOf Try.f5))) (by kernel_rfl) (by kernel_rfl) (by kernel_rfl) (ks_q6 n c l ch) K).trans (seqK_normal (by kernel_rfl) (by kernel_rfl))
theorem ks_q7 (n c : Int) (l ch : List D) (K : Kt) : ex (Env.rebase (ks_E) 0) [8] (sqA (sqR 7 (bodyOf Try.f5))) [] [2, 3, 9, 11, 12, 13, 1] (ks_F7 n c l ch) (ks_T7 n c l ch) K = K .normal (mkF 146 [(1, .dat (.int IntKind.u8 c)), (2, .dat (.slc (s36) l)), (3, .dat (.slc Sh.one ch)), (9, AV.ptr (s61) 0 0 []), (11, .dat (.int .i64 (ks_w4v0 n))), (12, .dat (.int .i64 0)), (13, AV.fslc Sh.one [])]) ([{ sh := s61, dyn := false, frz := false, v := AV.agg [AV.sref (Sh.arr Sh.one 128) 1 6 [] 0 6, .dat (.slc (s67) []), .dat (.int .i64 (burns_v1 (write_v2 6 (fillZ c) (-1 : Int) (ks_w4v0 n) false))), .dat (.bool (ks_w5v0 n c))] }, { sh := Sh.arr (Sh.arr Sh.one 128) 0, dyn := true, frz := false, v := .dat (.arr (Sh.arr Sh.one 128) (ks_w5v1 n c)) }]) := by kernel_rfl
def ks_F8 (n c : Int) (l ch : List D) : Frame' := mkF 146 [(1, .dat (.int IntKind.u8 c)), (2, .dat (.slc (s36) l)), (3, .dat (.slc Sh.one ch)), (9, AV.ptr (s61) 0 0 []), (11, .dat (.int .i64 (ks_w4v0 n))), (12, .dat (.int .i64 0)), (13, AV.fslc Sh.one [])]
def ks_T8 (n c : Int) (_l _ch : List D) : Store := [{ sh := s61, dyn := false, frz := false, v := AV.agg [AV.sref (Sh.arr Sh.one 128) 1 6 [] 0 6, .dat (.slc (s67) []), .dat (.int .i64 (burns_v1 (write_v2 6 (fillZ c) (-1 : Int) (ks_w4v0 n) false))), .dat (.bool (ks_w5v0 n c))] }, { sh := Sh.arr (Sh.arr Sh.one 128) 0, dyn := true, frz := false, v := .dat (.arr (Sh.arr Sh.one 128) (ks_w5v1 n c)) }]
theorem ks_s7 (n c : Int) (l ch : List D) (K : Kt) : ex (Env.rebase (ks_E) 0) [8] (sqR 7 (bodyOf Try.f5)) [] [8] (ks_F7 n c l ch) (ks_T7 n c l ch) K = ex (Env.rebase (ks_E) 0) [8] (sqR 8 (bodyOf Try.f5)) [] [8] (ks_F8 n c l ch) (ks_T8 n c l ch) K := (seg_str (c := (sqR 7 (bodyOf Try.f5))) (a := sqA (sqR 7 (bodyOf Try.f5))) (b := (sqR 8 (bodyOf Try.f5))) (by kernel_rfl) (by kernel_rfl) (by kernel_rfl) (ks_q7 n c l ch) K).trans (seqK_normal (by kernel_rfl) (by kernel_rfl))
theorem ks_r8 (n c : Int) (l ch : List D) (J : List AV → Store → Option Res) (K : Kt) : ex (Env.rebase (ks_E) 2) [8] (sqA (sqR 8 (bodyOf Try.f5))) [] [3, 9, 11, 12, 13, 1] (ks_F8 n c l ch) (ks_T8 n c l ch) (jK [12, 13] J K) = (cond (kpC 6 6 l [] (ks_w5v1 n c) (burns_v1 (write_v2 6 (fillZ c) (-1 : Int) (ks_w4v0 n) false)) (ks_w5v0 n c)) (J ([.dat (.int .i64 (Prod.fst (kpS 6 (ks_w4v0 n) l [] (min (List.length l) 40)))), .dat (.slc Sh.one (Prod.fst (Prod.snd (kpS 6 (ks_w4v0 n) l [] (min (List.length l) 40)))))]) ([{ sh := s61, dyn := false, frz := false, v := AV.agg [AV.sref (Sh.arr Sh.one 128) 1 6 [] 0 6, .dat (.slc (s67) (Prod.snd (Prod.snd (kpS 6 (ks_w4v0 n) l [] (min (List.length l) 40))))), .dat (.int .i64 (-1 : Int)), .dat (.bool false)] }, { sh := Sh.arr (Sh.arr Sh.one 128) 0, dyn := true, frz := false, v := .dat (.arr (Sh.arr Sh.one 128) (ks_w5v1 n c)) }])) (none)) := by kernel_rfl
theorem ks_q8 (n c : Int) (l ch : List D) (J : List AV → Store → Option Res) (K : Kt) : ex (Env.rebase (ks_E) 2) [8] (sqA (sqR 8 (bodyOf Try.f5))) [] [3, 9, 11, 12, 13, 1] (ks_F8 n c l ch) (ks_T8 n c l ch) (jK [12, 13] J K) = (cond (kpC 6 6 l [] (ks_w5v1 n c) (burns_v1 (write_v2 6 (fillZ c) (-1 : Int) (ks_w4v0 n) false)) (ks_w5v0 n c)) (J ([.dat (.int .i64 (Prod.fst (kpS 6 (ks_w4v0 n) l [] (min (List.length l) 40)))), .dat (.slc Sh.one (Prod.fst (Prod.snd (kpS 6 (ks_w4v0 n) l [] (min (List.length l) 40)))))]) ([{ sh := s61, dyn := false, frz := false, v := AV.agg [AV.sref (Sh.arr Sh.one 128) 1 6 [] 0 6, .dat (.slc (s67) (Prod.snd (Prod.snd (kpS 6 (ks_w4v0 n) l [] (min (List.length l) 40))))), .dat (.int .i64 (-1 : Int)), .dat (.bool false)] }, { sh := Sh.arr (Sh.arr Sh.one 128) 0, dyn := true, frz := false, v := .dat (.arr (Sh.arr Sh.one 128) (ks_w5v1 n c)) }])) none) := (ks_r8 n c l ch J K).trans (by
  generalize (kpC 6 6 l [] (ks_w5v1 n c) (burns_v1 (write_v2 6 (fillZ c) (-1 : Int) (ks_w4v0 n) false)) (ks_w5v0 n c)) = z0
  cases z0 with
  | true =>
   rfl
  | false =>
   rfl
  )
def ks_w8v0 (n : Int) (l : List D) : Int := Prod.fst (kpS 6 (ks_w4v0 n) l [] (min (List.length l) 40))
def ks_w8v1 (n : Int) (l : List D) : List D := Prod.fst (Prod.snd (kpS 6 (ks_w4v0 n) l [] (min (List.length l) 40)))
def ks_w8v2 (n : Int) (l : List D) : List D := Prod.snd (Prod.snd (kpS 6 (ks_w4v0 n) l [] (min (List.length l) 40)))
def ks_F9 (n c : Int) (l ch : List D) : Frame' := mkF 146 [(1, .dat (.int IntKind.u8 c)), (2, .dat (.slc (s36) l)), (3, .dat (.slc Sh.one ch)), (9, AV.ptr (s61) 0 0 []), (11, .dat (.int .i64 (ks_w4v0 n))), (12, .dat (.int .i64 (ks_w8v0 n l))), (13, .dat (.slc Sh.one (ks_w8v1 n l)))]
def ks_T9 (n c : Int) (l _ch : List D) : Store := [{ sh := s61, dyn := false, frz := false, v := AV.agg [AV.sref (Sh.arr Sh.one 128) 1 6 [] 0 6, .dat (.slc (s67) (ks_w8v2 n l)), .dat (.int .i64 (-1 : Int)), .dat (.bool false)] }, { sh := Sh.arr (Sh.arr Sh.one 128) 0, dyn := true, frz := false, v := .dat (.arr (Sh.arr Sh.one 128) (ks_w5v1 n c)) }]
def ks_p8 (n : Int) (c : Int) (l : List D) : Bool := kpC 6 6 l [] (ks_w5v1 n c) (burns_v1 (write_v2 6 (fillZ c) (-1 : Int) (ks_w4v0 n) false)) (ks_w5v0 n c)
theorem ks_s8 (n c : Int) (l ch : List D) (K : Kt) : ex (Env.rebase (ks_E) 0) [8] (sqR 8 (bodyOf Try.f5)) [] [8] (ks_F8 n c l ch) (ks_T8 n c l ch) K = (cond (ks_p8 n c l) (ex (Env.rebase (ks_E) 0) [8] (sqR 9 (bodyOf Try.f5)) [] [8] (ks_F9 n c l ch) (ks_T9 n c l ch) K) none) := (seg_join (c := (sqR 8 (bodyOf Try.f5))) (a := sqA (sqR 8 (bodyOf Try.f5))) (b := (sqR 9 (bodyOf Try.f5))) (ds := [46, 47, 48, 49, 50, 51, 52, 53, 56, 57, 58, 59, 60, 61, 62, 63, 64, 65, 66, 67, 68, 69, 70, 71, 72, 73, 74, 75, 76, 77, 78, 79, 12, 80, 81, 82, 83, 84, 13, 54, 55, 14]) (by kernel_rfl) (by kernel_rfl) (by kernel_rfl) (by kernel_rfl) (by kernel_rfl) (by kernel_rfl) (ks_q8 n c l ch) K).trans (condC (ex_same (by kernel_rfl) (by kernel_rfl)))
theorem ks_r9 (n c : Int) (l ch : List D) (J : List AV → Store → Option Res) (K : Kt) : ex (Env.rebase (ks_E) 2) [8] (sqA (sqR 9 (bodyOf Try.f5))) [] [9, 11, 12, 13, 1] (ks_F9 n c l ch) (ks_T9 n c l ch) (jK [] J K) = (cond (crash_pre 6 6 (ks_w8v2 n l) (ks_w5v1 n c) ch) (J ([]) ([{ sh := s61, dyn := false, frz := false, v := AV.agg [AV.sref (Sh.arr Sh.one 128) 1 6 [] 0 6, AV.fslc (s67) [], .dat (.int .i64 (-1 : Int)), .dat (.bool false)] }, { sh := Sh.arr (Sh.arr Sh.one 128) 0, dyn := true, frz := false, v := .dat (.arr (Sh.arr Sh.one 128) (crash_v0 (ks_w8v2 n l) (ks_w5v1 n c) ch)) }])) (none)) := by kernel_rfl
theorem ks_q9 (n c : Int) (l ch : List D) (J : List AV → Store → Option Res) (K : Kt) : ex (Env.rebase (ks_E) 2) [8] (sqA (sqR 9 (bodyOf Try.f5))) [] [9, 11, 12, 13, 1] (ks_F9 n c l ch) (ks_T9 n c l ch) (jK [] J K) = (cond (crash_pre 6 6 (ks_w8v2 n l) (ks_w5v1 n c) ch) (J ([]) ([{ sh := s61, dyn := false, frz := false, v := AV.agg [AV.sref (Sh.arr Sh.one 128) 1 6 [] 0 6, AV.fslc (s67) [], .dat (.int .i64 (-1 : Int)), .dat (.bool false)] }, { sh := Sh.arr (Sh.arr Sh.one 128) 0, dyn := true, frz := false, v := .dat (.arr (Sh.arr Sh.one 128) (crash_v0 (ks_w8v2 n l) (ks_w5v1 n c) ch)) }])) none) := (ks_r9 n c l ch J K).trans (by
  generalize (crash_pre 6 6 (ks_w8v2 n l) (ks_w5v1 n c) ch) = z0
  cases z0 with
  | true =>
   rfl
  | false =>
   rfl
  )
def ks_F10 (n c : Int) (l ch : List D) : Frame' := mkF 146 [(1, .dat (.int IntKind.u8 c)), (2, .dat (.slc (s36) l)), (3, .dat (.slc Sh.one ch)), (9, AV.ptr (s61) 0 0 []), (11, .dat (.int .i64 (ks_w4v0 n))), (12, .dat (.int .i64 (ks_w8v0 n l))), (13, .dat (.slc Sh.one (ks_w8v1 n l)))]
def ks_T10 (n c : Int) (l ch : List D) : Store := [{ sh := s61, dyn := false, frz := false, v := AV.agg [AV.sref (Sh.arr Sh.one 128) 1 6 [] 0 6, AV.fslc (s67) [], .dat (.int .i64 (-1 : Int)), .dat (.bool false)] }, { sh := Sh.arr (Sh.arr Sh.one 128) 0, dyn := true, frz := false, v := .dat (.arr (Sh.arr Sh.one 128) (crash_v0 (ks_w8v2 n l) (ks_w5v1 n c) ch)) }]
def ks_p9 (n : Int) (c : Int) (l : List D) (ch : List D) : Bool := crash_pre 6 6 (ks_w8v2 n l) (ks_w5v1 n c) ch
theorem ks_s9 (n c : Int) (l ch : List D) (K : Kt) : ex (Env.rebase (ks_E) 0) [8] (sqR 9 (bodyOf Try.f5)) [] [8] (ks_F9 n c l ch) (ks_T9 n c l ch) K = (cond (ks_p9 n c l ch) (ex (Env.rebase (ks_E) 0) [8] (sqR 10 (bodyOf Try.f5)) [] [8] (ks_F10 n c l ch) (ks_T10 n c l ch) K) none) := (seg_join (c := (sqR 9 (bodyOf Try.f5))) (a := sqA (sqR 9 (bodyOf Try.f5))) (b := (sqR 10 (bodyOf Try.f5))) (ds := [85, 86, 87, 88, 8]) (by kernel_rfl) (by kernel_rfl) (by kernel_rfl) (by kernel_rfl) (by kernel_rfl) (by kernel_rfl) (ks_q9 n c l ch) K).trans (condC (ex_same (by kernel_rfl) (by kernel_rfl)))
theorem ks_r10 (n c : Int) (l ch : List D) (K : Kt) : ex (Env.rebase (ks_E) 0) [8] (sqA (sqR 10 (bodyOf Try.f5))) [] [16, 12, 13, 15, 1] (ks_F10 n c l ch) (ks_T10 n c l ch) K = (cond (!able_v0 6 (ks_w4v0 n) false != 0 && read_pre 6 6 [] (crash_v0 (ks_w8v2 n l) (ks_w5v1 n c) ch) (ks_w4v0 n)) (K .normal (mkF 146 [(1, .dat (.int IntKind.u8 c)), (11, .dat (.int .i64 (ks_w4v0 n))), (12, .dat (.int .i64 (ks_w8v0 n l))), (13, .dat (.slc Sh.one (ks_w8v1 n l))), (15, .dat (.slc Sh.one (seg (now_v0 [] (crash_v0 (ks_w8v2 n l) (ks_w5v1 n c) ch) (ks_w4v0 n)) 0 128))), (16, .dat (.int .i64 0)), (91, .dat (.int .i64 (ks_w4v0 n))), (94, .dat (.int .i64 0))]) ([])) (none)) := by kernel_rfl
theorem ks_q10 (n c : Int) (l ch : List D) (K : Kt) : ex (Env.rebase (ks_E) 0) [8] (sqA (sqR 10 (bodyOf Try.f5))) [] [16, 12, 13, 15, 1] (ks_F10 n c l ch) (ks_T10 n c l ch) K = (cond (!able_v0 6 (ks_w4v0 n) false != 0 && read_pre 6 6 [] (crash_v0 (ks_w8v2 n l) (ks_w5v1 n c) ch) (ks_w4v0 n)) (K .normal (mkF 146 [(1, .dat (.int IntKind.u8 c)), (11, .dat (.int .i64 (ks_w4v0 n))), (12, .dat (.int .i64 (ks_w8v0 n l))), (13, .dat (.slc Sh.one (ks_w8v1 n l))), (15, .dat (.slc Sh.one (seg (now_v0 [] (crash_v0 (ks_w8v2 n l) (ks_w5v1 n c) ch) (ks_w4v0 n)) 0 128))), (16, .dat (.int .i64 0)), (91, .dat (.int .i64 (ks_w4v0 n))), (94, .dat (.int .i64 0))]) ([])) none) := (ks_r10 n c l ch K).trans (by
  generalize (!able_v0 6 (ks_w4v0 n) false != 0 && read_pre 6 6 [] (crash_v0 (ks_w8v2 n l) (ks_w5v1 n c) ch) (ks_w4v0 n)) = z0
  cases z0 with
  | true =>
   rfl
  | false =>
   rfl
  )
def ks_w10v0 (n : Int) (c : Int) (l : List D) (ch : List D) : List D := seg (now_v0 [] (crash_v0 (ks_w8v2 n l) (ks_w5v1 n c) ch) (ks_w4v0 n)) 0 128
def ks_F11 (n c : Int) (l ch : List D) : Frame' := mkF 146 [(1, .dat (.int IntKind.u8 c)), (11, .dat (.int .i64 (ks_w4v0 n))), (12, .dat (.int .i64 (ks_w8v0 n l))), (13, .dat (.slc Sh.one (ks_w8v1 n l))), (15, .dat (.slc Sh.one (ks_w10v0 n c l ch))), (16, .dat (.int .i64 0)), (91, .dat (.int .i64 (ks_w4v0 n))), (94, .dat (.int .i64 0))]
def ks_T11 (_n _c : Int) (_l _ch : List D) : Store := []
def ks_p10 (n : Int) (c : Int) (l : List D) (ch : List D) : Bool := !able_v0 6 (ks_w4v0 n) false != 0 && read_pre 6 6 [] (crash_v0 (ks_w8v2 n l) (ks_w5v1 n c) ch) (ks_w4v0 n)
theorem ks_s10 (n c : Int) (l ch : List D) (K : Kt) : ex (Env.rebase (ks_E) 0) [8] (sqR 10 (bodyOf Try.f5)) [] [8] (ks_F10 n c l ch) (ks_T10 n c l ch) K = (cond (ks_p10 n c l ch) (ex (Env.rebase (ks_E) 0) [8] (sqR 11 (bodyOf Try.f5)) [] [8] (ks_F11 n c l ch) (ks_T11 n c l ch) K) none) := (seg_str (c := (sqR 10 (bodyOf Try.f5))) (a := sqA (sqR 10 (bodyOf Try.f5))) (b := (sqR 11 (bodyOf Try.f5))) (by kernel_rfl) (by kernel_rfl) (by kernel_rfl) (ks_q10 n c l ch) K).trans (condC (seqK_normal (by kernel_rfl) (by kernel_rfl)))
theorem ks_r11 (n c : Int) (l ch : List D) (J : List AV → Store → Option Res) (K : Kt) : ex (Env.rebase (ks_E) 0) [8] (sqA (sqR 11 (bodyOf Try.f5))) [] [12, 13, 15, 1] (ks_F11 n c l ch) (ks_T11 n c l ch) (jK [] J K) = (cond (D.eqb (D.bool ((↑(List.length (ks_w10v0 n c l ch)) : Int) != 128)) (D.bool false)) ((cond (decide (ks_w8v0 n l > 1)) (K (Exit.ret) (mkF 146 [(8, .dat (.bool true))]) ([])) (J ([]) ([])))) (none)) := by kernel_rfl
theorem ks_q11 (n c : Int) (l ch : List D) (J : List AV → Store → Option Res) (K : Kt) : ex (Env.rebase (ks_E) 0) [8] (sqA (sqR 11 (bodyOf Try.f5))) [] [12, 13, 15, 1] (ks_F11 n c l ch) (ks_T11 n c l ch) (jK [] J K) = (cond (!(↑(List.length (ks_w10v0 n c l ch)) : Int) != 128) ((cond (decide (1 < ks_w8v0 n l)) (K (Exit.ret) (mkF 146 [(8, .dat (.bool true))]) ([])) (J ([]) ([])))) none) := (ks_r11 n c l ch J K).trans (by
  generalize (decide (1 < ks_w8v0 n l)) = z0
  generalize ((↑(List.length (ks_w10v0 n c l ch)) : Int) != 128) = z1
  cases z1 with
  | true =>
   rfl
  | false =>
   cases z0 with
   | true =>
    rfl
   | false =>
    rfl
  )
def ks_F12 (n c : Int) (l ch : List D) : Frame' := mkF 146 [(1, .dat (.int IntKind.u8 c)), (11, .dat (.int .i64 (ks_w4v0 n))), (12, .dat (.int .i64 (ks_w8v0 n l))), (13, .dat (.slc Sh.one (ks_w8v1 n l))), (15, .dat (.slc Sh.one (ks_w10v0 n c l ch))), (16, .dat (.int .i64 0)), (91, .dat (.int .i64 (ks_w4v0 n))), (94, .dat (.int .i64 0))]
def ks_T12 (_n _c : Int) (_l _ch : List D) : Store := []
def ks_p11 (n : Int) (c : Int) (l : List D) (ch : List D) : Bool := !(↑(List.length (ks_w10v0 n c l ch)) : Int) != 128
def ks_c11_0 (n : Int) (l : List D) : Bool := decide (1 < ks_w8v0 n l)
theorem ks_s11 (n c : Int) (l ch : List D) (K : Kt) : ex (Env.rebase (ks_E) 0) [8] (sqR 11 (bodyOf Try.f5)) [] [8] (ks_F11 n c l ch) (ks_T11 n c l ch) K = (cond (ks_p11 n c l ch) ((cond (ks_c11_0 n l) (K (Exit.ret) (mkF 146 [(8, .dat (.bool true))]) ([])) (ex (Env.rebase (ks_E) 0) [8] (sqR 12 (bodyOf Try.f5)) [] [8] (ks_F12 n c l ch) (ks_T12 n c l ch) K))) none) := (seg_join (c := (sqR 11 (bodyOf Try.f5))) (a := sqA (sqR 11 (bodyOf Try.f5))) (b := (sqR 12 (bodyOf Try.f5))) (ds := [95, 96, 97, 98, 99, 100, 101, 102, 103, 104, 105, 106, 107, 108, 109, 110, 8]) (by kernel_rfl) (by kernel_rfl) (by kernel_rfl) (by kernel_rfl) (by kernel_rfl) (by kernel_rfl) (ks_q11 n c l ch) K).trans (condC (condC3 rfl (ex_same (by kernel_rfl) (by kernel_rfl))))
theorem ks_e11_0 (_n _c : Int) (_l _ch : List D) : (finK (ks_E) true Try.f5 (callFin [] [])) (Exit.ret) (mkF 146 [(8, .dat (.bool true))]) ([]) = some (([.dat (.bool true)], []) : Res) := by kernel_rfl
theorem ks_q12 (n c : Int) (l ch : List D) (K : Kt) : ex (Env.rebase (ks_E) 0) [8] (sqA (sqR 12 (bodyOf Try.f5))) [] [12, 13, 17, 15, 1] (ks_F12 n c l ch) (ks_T12 n c l ch) K = K .normal (mkF 146 [(1, .dat (.int IntKind.u8 c)), (11, .dat (.int .i64 (ks_w4v0 n))), (12, .dat (.int .i64 (ks_w8v0 n l))), (13, .dat (.slc Sh.one (ks_w8v1 n l))), (15, .dat (.slc Sh.one (ks_w10v0 n c l ch))), (16, .dat (.int .i64 0)), (17, .dat (.int .i64 0)), (91, .dat (.int .i64 (ks_w4v0 n))), (94, .dat (.int .i64 0))]) ([]) := by kernel_rfl
def ks_F13 (n c : Int) (l ch : List D) : Frame' := mkF 146 [(1, .dat (.int IntKind.u8 c)), (11, .dat (.int .i64 (ks_w4v0 n))), (12, .dat (.int .i64 (ks_w8v0 n l))), (13, .dat (.slc Sh.one (ks_w8v1 n l))), (15, .dat (.slc Sh.one (ks_w10v0 n c l ch))), (16, .dat (.int .i64 0)), (17, .dat (.int .i64 0)), (91, .dat (.int .i64 (ks_w4v0 n))), (94, .dat (.int .i64 0))]
def ks_T13 (_n _c : Int) (_l _ch : List D) : Store := []
theorem ks_s12 (n c : Int) (l ch : List D) (K : Kt) : ex (Env.rebase (ks_E) 0) [8] (sqR 12 (bodyOf Try.f5)) [] [8] (ks_F12 n c l ch) (ks_T12 n c l ch) K = ex (Env.rebase (ks_E) 0) [8] (sqR 13 (bodyOf Try.f5)) [] [8] (ks_F13 n c l ch) (ks_T13 n c l ch) K := (seg_str (c := (sqR 12 (bodyOf Try.f5))) (a := sqA (sqR 12 (bodyOf Try.f5))) (b := (sqR 13 (bodyOf Try.f5))) (by kernel_rfl) (by kernel_rfl) (by kernel_rfl) (ks_q12 n c l ch) K).trans (seqK_normal (by kernel_rfl) (by kernel_rfl))
theorem ks_r13 (n c : Int) (l ch : List D) (J : List AV → Store → Option Res) (K : Kt) : ex (Env.rebase (ks_E) 0) [8] (sqA (sqR 13 (bodyOf Try.f5))) [] [17, 15, 1] (ks_F13 n c l ch) (ks_T13 n c l ch) (jK [17] J K) = (cond (ktC (ks_w8v0 n l) (ks_w8v1 n l) (ks_w10v0 n c l ch)) (J ([.dat (.int .i64 (ktT (ks_w8v0 n l) (ks_w8v1 n l) (ks_w10v0 n c l ch)))]) ([])) (none)) := by kernel_rfl
theorem ks_q13 (n c : Int) (l ch : List D) (J : List AV → Store → Option Res) (K : Kt) : ex (Env.rebase (ks_E) 0) [8] (sqA (sqR 13 (bodyOf Try.f5))) [] [17, 15, 1] (ks_F13 n c l ch) (ks_T13 n c l ch) (jK [17] J K) = (cond (ktC (ks_w8v0 n l) (ks_w8v1 n l) (ks_w10v0 n c l ch)) (J ([.dat (.int .i64 (ktT (ks_w8v0 n l) (ks_w8v1 n l) (ks_w10v0 n c l ch)))]) ([])) none) := (ks_r13 n c l ch J K).trans (by
  generalize (ktC (ks_w8v0 n l) (ks_w8v1 n l) (ks_w10v0 n c l ch)) = z0
  cases z0 with
  | true =>
   rfl
  | false =>
   rfl
  )
def ks_F14 (n c : Int) (l ch : List D) : Frame' := mkF 146 [(1, .dat (.int IntKind.u8 c)), (11, .dat (.int .i64 (ks_w4v0 n))), (12, .dat (.int .i64 (ks_w8v0 n l))), (13, .dat (.slc Sh.one (ks_w8v1 n l))), (15, .dat (.slc Sh.one (ks_w10v0 n c l ch))), (16, .dat (.int .i64 0)), (17, .dat (.int .i64 (ktT (ks_w8v0 n l) (ks_w8v1 n l) (ks_w10v0 n c l ch)))), (91, .dat (.int .i64 (ks_w4v0 n))), (94, .dat (.int .i64 0))]
def ks_T14 (_n _c : Int) (_l _ch : List D) : Store := []
def ks_p13 (n : Int) (c : Int) (l : List D) (ch : List D) : Bool := ktC (ks_w8v0 n l) (ks_w8v1 n l) (ks_w10v0 n c l ch)
theorem ks_s13 (n c : Int) (l ch : List D) (K : Kt) : ex (Env.rebase (ks_E) 0) [8] (sqR 13 (bodyOf Try.f5)) [] [8] (ks_F13 n c l ch) (ks_T13 n c l ch) K = (cond (ks_p13 n c l ch) (ex (Env.rebase (ks_E) 0) [8] (sqR 14 (bodyOf Try.f5)) [] [8] (ks_F14 n c l ch) (ks_T14 n c l ch) K) none) := (seg_join (c := (sqR 13 (bodyOf Try.f5))) (a := sqA (sqR 13 (bodyOf Try.f5))) (b := (sqR 14 (bodyOf Try.f5))) (ds := [111, 112, 113, 114, 115, 116, 117, 118, 119, 120, 121, 122, 123, 124, 125, 126, 127, 128, 129, 130, 131, 132, 133, 17]) (by kernel_rfl) (by kernel_rfl) (by kernel_rfl) (by kernel_rfl) (by kernel_rfl) (by kernel_rfl) (ks_q13 n c l ch) K).trans (condC (ex_same (by kernel_rfl) (by kernel_rfl)))
theorem ks_r14 (n c : Int) (l ch : List D) (J : List AV → Store → Option Res) (K : Kt) : ex (Env.rebase (ks_E) 0) [8] (sqA (sqR 14 (bodyOf Try.f5))) [] [] (ks_F14 n c l ch) (ks_T14 n c l ch) (jK [] J K) = (cond (kcC c (ks_w10v0 n c l ch) (ktT (ks_w8v0 n l) (ks_w8v1 n l) (ks_w10v0 n c l ch))) (J ([]) ([])) (none)) := by kernel_rfl
theorem ks_q14 (n c : Int) (l ch : List D) (J : List AV → Store → Option Res) (K : Kt) : ex (Env.rebase (ks_E) 0) [8] (sqA (sqR 14 (bodyOf Try.f5))) [] [] (ks_F14 n c l ch) (ks_T14 n c l ch) (jK [] J K) = (cond (kcC c (ks_w10v0 n c l ch) (ktT (ks_w8v0 n l) (ks_w8v1 n l) (ks_w10v0 n c l ch))) (J ([]) ([])) none) := (ks_r14 n c l ch J K).trans (by
  generalize (kcC c (ks_w10v0 n c l ch) (ktT (ks_w8v0 n l) (ks_w8v1 n l) (ks_w10v0 n c l ch))) = z0
  cases z0 with
  | true =>
   rfl
  | false =>
   rfl
  )
def ks_F15 (n c : Int) (l ch : List D) : Frame' := mkF 146 [(1, .dat (.int IntKind.u8 c)), (11, .dat (.int .i64 (ks_w4v0 n))), (12, .dat (.int .i64 (ks_w8v0 n l))), (13, .dat (.slc Sh.one (ks_w8v1 n l))), (15, .dat (.slc Sh.one (ks_w10v0 n c l ch))), (16, .dat (.int .i64 0)), (17, .dat (.int .i64 (ktT (ks_w8v0 n l) (ks_w8v1 n l) (ks_w10v0 n c l ch)))), (91, .dat (.int .i64 (ks_w4v0 n))), (94, .dat (.int .i64 0))]
def ks_T15 (_n _c : Int) (_l _ch : List D) : Store := []
def ks_p14 (n : Int) (c : Int) (l : List D) (ch : List D) : Bool := kcC c (ks_w10v0 n c l ch) (ktT (ks_w8v0 n l) (ks_w8v1 n l) (ks_w10v0 n c l ch))
theorem ks_s14 (n c : Int) (l ch : List D) (K : Kt) : ex (Env.rebase (ks_E) 0) [8] (sqR 14 (bodyOf Try.f5)) [] [8] (ks_F14 n c l ch) (ks_T14 n c l ch) K = (cond (ks_p14 n c l ch) (ex (Env.rebase (ks_E) 0) [8] (sqR 15 (bodyOf Try.f5)) [] [8] (ks_F15 n c l ch) (ks_T15 n c l ch) K) none) := (seg_join (c := (sqR 14 (bodyOf Try.f5))) (a := sqA (sqR 14 (bodyOf Try.f5))) (b := (sqR 15 (bodyOf Try.f5))) (ds := [134, 135, 136, 139, 140, 141, 142, 143, 144, 8, 137, 138, 18]) (by kernel_rfl) (by kernel_rfl) (by kernel_rfl) (by kernel_rfl) (by kernel_rfl) (by kernel_rfl) (ks_q14 n c l ch) K).trans (condC (ex_same (by kernel_rfl) (by kernel_rfl)))
theorem ks_q15 (n c : Int) (l ch : List D) (K : Kt) : ex (Env.rebase (ks_E) 0) [8] (sqA (sqR 15 (bodyOf Try.f5))) [] [8] (ks_F15 n c l ch) (ks_T15 n c l ch) K = K .normal (mkF 146 [(1, .dat (.int IntKind.u8 c)), (8, .dat (.bool true)), (11, .dat (.int .i64 (ks_w4v0 n))), (12, .dat (.int .i64 (ks_w8v0 n l))), (13, .dat (.slc Sh.one (ks_w8v1 n l))), (15, .dat (.slc Sh.one (ks_w10v0 n c l ch))), (16, .dat (.int .i64 0)), (17, .dat (.int .i64 (ktT (ks_w8v0 n l) (ks_w8v1 n l) (ks_w10v0 n c l ch)))), (91, .dat (.int .i64 (ks_w4v0 n))), (94, .dat (.int .i64 0)), (145, .dat (.bool true))]) ([]) := by kernel_rfl
def ks_F16 (n c : Int) (l ch : List D) : Frame' := mkF 146 [(1, .dat (.int IntKind.u8 c)), (8, .dat (.bool true)), (11, .dat (.int .i64 (ks_w4v0 n))), (12, .dat (.int .i64 (ks_w8v0 n l))), (13, .dat (.slc Sh.one (ks_w8v1 n l))), (15, .dat (.slc Sh.one (ks_w10v0 n c l ch))), (16, .dat (.int .i64 0)), (17, .dat (.int .i64 (ktT (ks_w8v0 n l) (ks_w8v1 n l) (ks_w10v0 n c l ch)))), (91, .dat (.int .i64 (ks_w4v0 n))), (94, .dat (.int .i64 0)), (145, .dat (.bool true))]
def ks_T16 (_n _c : Int) (_l _ch : List D) : Store := []
theorem ks_s15 (n c : Int) (l ch : List D) (K : Kt) : ex (Env.rebase (ks_E) 0) [8] (sqR 15 (bodyOf Try.f5)) [] [8] (ks_F15 n c l ch) (ks_T15 n c l ch) K = ex (Env.rebase (ks_E) 0) [8] (sqR 16 (bodyOf Try.f5)) [] [8] (ks_F16 n c l ch) (ks_T16 n c l ch) K := (seg_str (c := (sqR 15 (bodyOf Try.f5))) (a := sqA (sqR 15 (bodyOf Try.f5))) (b := (sqR 16 (bodyOf Try.f5))) (by kernel_rfl) (by kernel_rfl) (by kernel_rfl) (ks_q15 n c l ch) K).trans (seqK_normal (by kernel_rfl) (by kernel_rfl))
theorem ks_q16 (n c : Int) (l ch : List D) (K : Kt) : ex (Env.rebase (ks_E) 0) [8] (sqR 16 (bodyOf Try.f5)) [] [8] (ks_F16 n c l ch) (ks_T16 n c l ch) K = K (Exit.ret) (mkF 146 [(8, .dat (.bool true))]) ([]) := by kernel_rfl
theorem ks_s16 (n c : Int) (l ch : List D) (K : Kt) : ex (Env.rebase (ks_E) 0) [8] (sqR 16 (bodyOf Try.f5)) [] [8] (ks_F16 n c l ch) (ks_T16 n c l ch) K = K (Exit.ret) (mkF 146 [(8, .dat (.bool true))]) ([]) := (ks_q16 n c l ch K).trans rfl
theorem ks_e16_0 (_n _c : Int) (_l _ch : List D) : (finK (ks_E) true Try.f5 (callFin [] [])) (Exit.ret) (mkF 146 [(8, .dat (.bool true))]) ([]) = some (([.dat (.bool true)], []) : Res) := by kernel_rfl
def C_ks : FunT := fun args σ => match args, σ with
  | [AV.dat (D.int IntKind.i64 n), AV.dat (D.int IntKind.u8 c), AV.dat (D.slc (Sh.agg [Sh.one, Sh.one, Sh.one]) l), AV.dat (D.slc Sh.one ch)], [] => .chk (ks_p5 n c) (.chk (ks_p8 n c l) (.chk (ks_p9 n c l ch) (.chk (ks_p10 n c l ch) (.chk (ks_p11 n c l ch) (.br (ks_c11_0 n l) (.leaf ([AV.dat (D.bool true)], [])) (.chk (ks_p13 n c l ch) (.chk (ks_p14 n c l ch) (.leaf ([AV.dat (D.bool true)], [])))))))))
  | _, _ => .fail
theorem ks_case0 (n c : Int) (l ch : List D) : runF (envOf tab SpK [] [(12, L_kp), (23, L_kt), (26, L_kc)] HK) true Try.f5 [.dat (.int .i64 n), .dat (.int .u8 c), .dat (.slc s36 l), .dat (.slc .one ch)] [] = FunT.run C_ks [.dat (.int .i64 n), .dat (.int .u8 c), .dat (.slc s36 l), .dat (.slc .one ch)] [] := ((ks_start n c l ch).trans ((ks_s0 n c l ch _).trans ((ks_s1 n c l ch _).trans ((ks_s2 n c l ch _).trans ((ks_s3 n c l ch _).trans ((ks_s4 n c l ch _).trans ((ks_s5 n c l ch _).trans (condC ((ks_s6 n c l ch _).trans ((ks_s7 n c l ch _).trans ((ks_s8 n c l ch _).trans (condC ((ks_s9 n c l ch _).trans (condC ((ks_s10 n c l ch _).trans (condC ((ks_s11 n c l ch _).trans (condC ((condC (ks_e11_0 n c l ch)).trans (condC2 ((ks_s12 n c l ch _).trans ((ks_s13 n c l ch _).trans (condC ((ks_s14 n c l ch _).trans (condC ((ks_s15 n c l ch _).trans ((ks_s16 n c l ch _).trans (ks_e16_0 n c l ch)))))))))))))))))))))))))))).trans (by kernel_rfl)
theorem cks_ok : FunOk Try.prog 5 (FunT.run C_ks) := by
  refine fun_ok (E := ks_E) (fz := true) (fn := Try.f5) (envOf_ok progOk SpK_ok) (by kernel_rfl) (by kernel_rfl) ks_loops ?_
  intro args σ r h
  unfold C_ks at h
  split at h
  · exact (ks_case0 _ _ _ _).trans h
  · simp [T.run_fail] at h
end Go.Proofs.Ythhipekbkodjoaa
