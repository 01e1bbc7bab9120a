/- Seat 20: AuditBack's inner loops, and a round of the outer one. -/
import Derived.Test.YtdmmobjegfhneaaT
namespace Go.Proofs.Ytdmmobjegfhneaa
open Go.AX
set_option maxRecDepth 100000
set_option maxHeartbeats 2000000
theorem numB_okU8 (n : Int) : ∀ k, (numB n k).all okU8 = true
  | 0 => rfl
  | k + 1 => by
    rw [numB, List.all_cons, numB_okU8 n k, Bool.and_true]
    show (true && (decide (0 ≤ n / 2 ^ (8 * k) % 256) && decide (n / 2 ^ (8 * k) % 256 ≤ 255))) = true
    rw [decide_eq_true (Int.emod_nonneg _ (by decide)), decide_eq_true (by have := Int.emod_lt_of_pos (n / 2 ^ (8 * k)) (show (0 : Int) < 256 by decide); omega)]; rfl
theorem okU8_s {n : Int} (h : s128 n) : okU8 (w8 n) = true := by
  show (true && (decide (0 ≤ n) && decide (n ≤ 255))) = true
  rw [decide_eq_true h.1, decide_eq_true (by have := h.2; omega)]; rfl
theorem read_back {r li la wh si ba qu qt pr sl : Int} (h0 : u64 r = true) (h7 : u64 qt = true) (h8 : u64 pr = true) (hm : may_v0 r li la wh si ba qu qt pr sl = true) :
    okB (byD r li la wh si ba qu qt pr sl) = true ∧ reR (byD r li la wh si ba qu qt pr sl) = 0 ∧ reO (byD r li la wh si ba qu qt pr sl) = entD r li la wh si ba qu qt pr sl := by
  have e : byD r li la wh si ba qu qt pr sl = byL r li la wh si ba qu qt pr sl := by rw [byD, hm, cond_true]
  have hE := reE_byL (li := li) (la := la) (wh := wh) (si := si) (ba := ba) (qu := qu) (sl := sl) h0 h7 h8
  have hl : (byL r li la wh si ba qu qt pr sl).length = 31 := rfl
  have hM : mayD (reE (byL r li la wh si ba qu qt pr sl)) = true := by rw [hE]; exact hm
  have hG : reG (byL r li la wh si ba qu qt pr sl) = true := by unfold reG; rw [hM]; rfl
  obtain ⟨_, h1, h2, h3, h4, h5, h6, h9⟩ := may_facts hm
  rw [e]
  refine ⟨?_, ?_, ?_⟩
  · rw [okB, hl]
    unfold byL
    simp only [List.all_append, List.all_cons, List.all_nil, numB_okU8, okU8_s h1, okU8_s h2, okU8_s h3, okU8_s h4, okU8_s h5, okU8_s h6, okU8_s h9, Bool.and_true]
    rfl
  · unfold reR; rw [hl, hM]; rfl
  · simp only [reO, reF, hG, cond_true]; exact hE
def okX (x : D) : Bool := okEn x && (u64 (en x 0) && mayD x)
theorem okX_k {l : List D} (h : l.all okX = true) : l.all (okE k25) = true := by
  rw [List.all_eq_true] at h ⊢
  intro d hd
  have := h d hd
  simp only [okX, Bool.and_eq_true] at this
  exact okEn_k this.1
abbrev bkC (log nx : List D) : Bool := D.eqbL (nx.take log.length) log && (log.all (okE k25) && decide (log.length ≤ 1000))
theorem bk_closed (l log nx b : List D) (m c : Int) (hc : bkC log nx = true) :
    ∃ z, (iterT (bk_step l log nx b m c) z 0).run = T.run (.leaf (some 2, mkF 130 [(0, .dat (.slc s25 l)), (1, .dat (.int .i64 m)), (2, .dat (.slc .one b)), (8, .dat (.int .i64 c)), (9, .dat (.slc s25 nx))], [])) := by
  simp only [bkC, Bool.and_eq_true, decide_eq_true_eq, eqbL_iff] at hc
  obtain ⟨h1, h2, h3⟩ := hc
  have hl : log.length ≤ nx.length := by
    have := congrArg List.length h1
    rw [List.length_take] at this; omega
  obtain ⟨z, hz⟩ := iter_countFrom (step := bk_step l log nx b m c) (a := 0) (n := log.length) (o := (some 2, mkF 130 [(0, .dat (.slc s25 l)), (1, .dat (.int .i64 m)), (2, .dat (.slc .one b)), (8, .dat (.int .i64 c)), (9, .dat (.slc s25 nx))], [])) (Nat.zero_le _) (fun i _ hi => by
    have e : nthD nx i = nthD log i := by
      rw [← h1]
      unfold nthD
      simp only [List.getD_eq_getElem?_getD, List.getElem?_take, if_pos hi]
    have hx : okE k25 (nthD log i) = true := List.all_eq_true.1 h2 _ (nthD_mem hi)
    unfold bk_step bk_t0 bk_t2 bk_t1
    simp only [Int.toNat_natCast, decide_eq_true (show (i : Int) < (log.length : Int) by omega), decide_eq_true (show (0 : Int) ≤ (i : Int) by omega), decide_eq_true hi, decide_eq_true (show i < nx.length by omega), e, hx, beq_self_eq_true, wrap_succ (show i < 2 ^ 62 by omega), Bool.not_true, Bool.false_or, Bool.true_and, T.run_br, T.run_chk, T.run_leaf, cond_true, cond_false]) (by
    unfold bk_step bk_t0 bk_t2 bk_t1
    simp only [decide_eq_false (show ¬ (log.length : Int) < (log.length : Int) by omega)]
    rfl)
  exact ⟨z, hz⟩
def L_bk : Frame' → Store → T (Exit × Frame' × Store) := fun fr σ => match fr.getD 0 .undef, fr.getD 1 .undef, fr.getD 2 .undef, fr.getD 7 .undef, fr.getD 8 .undef, fr.getD 9 .undef, fr.getD 11 .undef, σ with
  | AV.dat (D.slc (Sh.agg [Sh.one, Sh.one, Sh.one, Sh.one, Sh.one, Sh.one, Sh.one, Sh.one, Sh.one, Sh.one]) l), AV.dat (D.int IntKind.i64 m), AV.dat (D.slc Sh.one b), AV.dat (D.slc (Sh.agg [Sh.one, Sh.one, Sh.one, Sh.one, Sh.one, Sh.one, Sh.one, Sh.one, Sh.one, Sh.one]) log), AV.dat (D.int IntKind.i64 c), AV.dat (D.slc (Sh.agg [Sh.one, Sh.one, Sh.one, Sh.one, Sh.one, Sh.one, Sh.one, Sh.one, Sh.one, Sh.one]) nx), AV.dat (D.int IntKind.i64 0), [] => .chk (Nat.beq fr.length 130 && (bkC log nx)) (T.bind (.leaf (some 2, mkF 130 [(0, .dat (.slc s25 l)), (1, .dat (.int .i64 m)), (2, .dat (.slc .one b)), (8, .dat (.int .i64 c)), (9, .dat (.slc s25 nx))], [])) fun o => .leaf (outEx o.1, o.2.1, o.2.2))
  | _, _, _, _, _, _, _, _ => .fail
theorem bk_sem (lp : Loops) : ∀ fr σ p, (L_bk fr σ).run = some p → ∀ (K : Kt) r, K p.1 p.2.1 p.2.2 = some r → ∃ n, loopRun (envOf tab SpT [] lp HT) Try.f5 1 σ.length n (cleanF (liveAt Try.f5 1) 0 fr) σ K = some r := by
  intro fr σ p h K r hK
  unfold L_bk at h
  split at h
  · rename_i l m b log c nx g0 g1 g2 g7 g8 g9 g11
    obtain ⟨hc, h'⟩ := T.chk_some h
    rw [Bool.and_eq_true] at hc
    obtain ⟨hl, hc⟩ := hc
    obtain ⟨o, ho, h'⟩ := T.bind_some h'
    have hp := T.leaf_some h'
    subst hp
    obtain ⟨nF, hn⟩ : ∃ nF, (iterT (bk_step l log nx b m c) nF (0)).run = T.run (.leaf (some 2, mkF 130 [(0, .dat (.slc s25 l)), (1, .dat (.int .i64 m)), (2, .dat (.slc .one b)), (8, .dat (.int .i64 c)), (9, .dat (.slc s25 nx))], [])) := bk_closed l log nx b m c hc
    rw [ho] at hn
    refine ⟨nF, ?_⟩
    have he : cleanF (liveAt Try.f5 1) 0 fr = bk_fr l log nx b m c (0) := bk_enter l log nx b m c _ fr hl g0 g1 g2 g7 g8 g9 g11
    refine (iter_ok (base := 0) (bk_hr lp l log nx b m c) K nF (0) _ _ (by rw [clean_clean]; exact he) (by kernel_rfl)).trans ?_
    rw [T.k_run hn]
    exact hK
  · simp [T.run_fail] at h
theorem bk_loopOk {k : Nat} (lp : Loops) (hk : Loops.get lp 10 = some L_bk) : LoopOkN Try.prog k (envOf tab SpT [] lp HT) (loopAt Try.f5 1).1 (loopAt Try.f5 1).2 := loop_okN (L := L_bk) (by kernel_rfl) hk (bk_sem lp)
abbrev brC (log : List D) : Bool := log.all okX && decide (log.length ≤ 1000)
theorem br_closed (log b : List D) (hc : brC log = true) :
    ∃ z, (iterT (br_step log b) z 0).run = T.run (.leaf (some 4, mkF 130 [(2, .dat (.slc .one b)), (7, .dat (.slc s25 log))], [])) := by
  simp only [brC, Bool.and_eq_true, decide_eq_true_eq] at hc
  obtain ⟨h1, h2⟩ := hc
  obtain ⟨z, hz⟩ := iter_countFrom (step := br_step log b) (a := 0) (n := log.length) (o := (some 4, mkF 130 [(2, .dat (.slc .one b)), (7, .dat (.slc s25 log))], [])) (Nat.zero_le _) (fun i _ hi => by
    have hx := List.all_eq_true.1 h1 _ (nthD_mem hi)
    simp only [okX, okEn, Bool.and_eq_true] at hx
    obtain ⟨⟨g0, g7, g8⟩, g1, g2⟩ := hx
    have g0' : u64 (en (nthD log i) 0) = true := by rw [u64, g1.1, g1.2]; rfl
    have g7' : u64 (en (nthD log i) 7) = true := by rw [u64, g7.1, g7.2]; rfl
    have g8' : u64 (en (nthD log i) 8) = true := by rw [u64, g8.1, g8.2]; rfl
    obtain ⟨q1, q2, q3⟩ := read_back g0' g7' g8' g2
    have g9 : okEn (entD (en (nthD log i) 0) (en (nthD log i) 1) (en (nthD log i) 2) (en (nthD log i) 3) (en (nthD log i) 4) (en (nthD log i) 5) (en (nthD log i) 6) (en (nthD log i) 7) (en (nthD log i) 8) (en (nthD log i) 9)) = true := by
      show (true && (u64 (en (nthD log i) 7) && u64 (en (nthD log i) 8))) = true
      rw [g7', g8']; rfl
    simp only [reO, D.agg.injEq, List.cons.injEq, D.int.injEq, true_and] at q3
    obtain ⟨a0, a1, a2, a3, a4, a5, a6, a7, a8, a9, _⟩ := q3
    unfold br_step br_t2 br_t1 br_t0 br_t3
    simp only [Int.toNat_natCast, decide_eq_true (show (i : Int) < (log.length : Int) by omega), decide_eq_true (show (0 : Int) ≤ (i : Int) by omega), decide_eq_true hi, g0, g9, g0', q1, q2, a0, a1, a2, a3, a4, a5, a6, a7, a8, a9, beq_self_eq_true, wrap_succ (show i < 2 ^ 62 by omega), Bool.not_true, Bool.false_or, Bool.true_and, T.run_br, T.run_chk, T.run_leaf, cond_false]
    rfl) (by
    unfold br_step br_t2 br_t1 br_t0 br_t3
    simp only [decide_eq_false (show ¬ (log.length : Int) < (log.length : Int) by omega)]
    rfl)
  exact ⟨z, hz⟩
def L_br : Frame' → Store → T (Exit × Frame' × Store) := fun fr σ => match fr.getD 2 .undef, fr.getD 7 .undef, fr.getD 12 .undef, σ with
  | AV.dat (D.slc Sh.one b), AV.dat (D.slc (Sh.agg [Sh.one, Sh.one, Sh.one, Sh.one, Sh.one, Sh.one, Sh.one, Sh.one, Sh.one, Sh.one]) log), AV.dat (D.int IntKind.i64 0), [] => .chk (Nat.beq fr.length 130 && (brC log)) (T.bind (.leaf (some 4, mkF 130 [(2, .dat (.slc .one b)), (7, .dat (.slc s25 log))], [])) fun o => .leaf (outEx o.1, o.2.1, o.2.2))
  | _, _, _, _ => .fail
theorem br_sem (lp : Loops) : ∀ fr σ p, (L_br fr σ).run = some p → ∀ (K : Kt) r, K p.1 p.2.1 p.2.2 = some r → ∃ n, loopRun (envOf tab SpT [] lp HT) Try.f5 2 σ.length n (cleanF (liveAt Try.f5 2) 0 fr) σ K = some r := by
  intro fr σ p h K r hK
  unfold L_br at h
  split at h
  · rename_i b log g2 g7 g12
    obtain ⟨hc, h'⟩ := T.chk_some h
    rw [Bool.and_eq_true] at hc
    obtain ⟨hl, hc⟩ := hc
    obtain ⟨o, ho, h'⟩ := T.bind_some h'
    have hp := T.leaf_some h'
    subst hp
    obtain ⟨nF, hn⟩ : ∃ nF, (iterT (br_step log b) nF (0)).run = T.run (.leaf (some 4, mkF 130 [(2, .dat (.slc .one b)), (7, .dat (.slc s25 log))], [])) := br_closed log b hc
    rw [ho] at hn
    refine ⟨nF, ?_⟩
    have he : cleanF (liveAt Try.f5 2) 0 fr = br_fr log b (0) := br_enter log b _ fr hl g2 g7 g12
    refine (iter_ok (base := 0) (br_hr lp log b) K nF (0) _ _ (by rw [clean_clean]; exact he) (by kernel_rfl)).trans ?_
    rw [T.k_run hn]
    exact hK
  · simp [T.run_fail] at h
theorem br_loopOk {k : Nat} (lp : Loops) (hk : Loops.get lp 16 = some L_br) : LoopOkN Try.prog k (envOf tab SpT [] lp HT) (loopAt Try.f5 2).1 (loopAt Try.f5 2).2 := loop_okN (L := L_br) (by kernel_rfl) hk (br_sem lp)
def bo_t3 (l : List D) (c : Int) := D.getL (nthD l (Int.toNat c))
def bo_t0 (l : List D) (c : Int) := D.agg [D.int IntKind.u64 (D.getI (nthD (bo_t3 l c) 0)), D.int .i64 (D.getI (nthD (bo_t3 l c) 1)), D.int .i64 (D.getI (nthD (bo_t3 l c) 2)), D.int .i64 (D.getI (nthD (bo_t3 l c) 3)), D.int .i64 (D.getI (nthD (bo_t3 l c) 4)), D.int .i64 (D.getI (nthD (bo_t3 l c) 5)), D.int .i64 (D.getI (nthD (bo_t3 l c) 6)), D.int IntKind.u64 (D.getI (nthD (bo_t3 l c) 7)), D.int IntKind.u64 (D.getI (nthD (bo_t3 l c) 8)), D.int .i64 (D.getI (nthD (bo_t3 l c) 9))]
def bo_t2 (l : List D) (m : Int) (c : Int) (log : List D) := nthD (addL log m (bo_t0 l c)) (Int.toNat (↑(List.length log) : Int))
def bo_t1 (l : List D) (m : Int) (c : Int) (log : List D) := D.getI (nthD (D.getL (bo_t2 l m c log)) 1) == D.getI (nthD (bo_t3 l c) 1) && (D.getI (nthD (D.getL (bo_t2 l m c log)) 2) == D.getI (nthD (bo_t3 l c) 2) && (D.getI (nthD (D.getL (bo_t2 l m c log)) 3) == D.getI (nthD (bo_t3 l c) 3) && (D.getI (nthD (D.getL (bo_t2 l m c log)) 4) == D.getI (nthD (bo_t3 l c) 4) && (D.getI (nthD (D.getL (bo_t2 l m c log)) 5) == D.getI (nthD (bo_t3 l c) 5) && (D.getI (nthD (D.getL (bo_t2 l m c log)) 6) == D.getI (nthD (bo_t3 l c) 6) && (D.getI (nthD (D.getL (bo_t2 l m c log)) 7) == D.getI (nthD (bo_t3 l c) 7) && (D.getI (nthD (D.getL (bo_t2 l m c log)) 8) == D.getI (nthD (bo_t3 l c) 8) && (D.getI (nthD (D.getL (bo_t2 l m c log)) 9) == D.getI (nthD (bo_t3 l c) 9) && true))))))))
def bo_t4 (c : Int) := IntKind.wrap IntKind.i64 (c + 1)
def bo_t5 (l : List D) (m : Int) (c : Int) (log : List D) := List.length (addL log m (bo_t0 l c))
def bo_fr (l b : List D) (m : Int) : (Int × List D) → Frame' := fun ⟨c, log⟩ => mkF 130 [(0, .dat (.slc s25 l)), (1, .dat (.int .i64 m)), (2, .dat (.slc .one b)), (7, .dat (.slc s25 log)), (8, .dat (.int .i64 c))]
def bo_st (_l _b : List D) (_m : Int) : (Int × List D) → Store := fun ⟨_, _⟩ => []
def bo_step (l b : List D) (m : Int) : (Int × List D) → T ((Int × List D) ⊕ LOut) := fun ⟨c, log⟩ =>
  .chk (!decide (c < (↑(List.length l) : Int)) || (!decide (c < 60) || decide (0 ≤ c) && (decide (Int.toNat c < List.length l) && (okE (k25) (nthD l (Int.toNat c)) && (okA log (bo_t0 l c) && (addE log m (bo_t0 l c) != 0 || !(↑(bo_t5 l m c log) : Int) != IntKind.wrap IntKind.i64 ((↑(List.length log) : Int) + 1) && (!decide (m < (↑(bo_t5 l m c log) : Int)) && (decide (Int.toNat (↑(List.length log) : Int) < List.length (addL log m (bo_t0 l c))) && (okE (k25) (bo_t2 l m c log) && (D.getI (nthD (D.getL (bo_t2 l m c log)) 0) == D.getI (nthD (bo_t3 l c) 0) && (bo_t1 l m c log) && bkC log (addL log m (bo_t0 l c)))))))))))) (
   .br (!decide (c < (↑(List.length l) : Int)) || !decide (c < 60)) (.leaf (.inr ((some 0), mkF 130 [(2, .dat (.slc Sh.one b)), (7, .dat (.slc (s25) log))], []))) (.leaf (.inl ((bo_t4 c), (bif addE log m (bo_t0 l c) != 0 then log else addL log m (bo_t0 l c))))))
theorem bo_round (lp : Loops) (l b : List D) (m : Int) (c : Int) (log : List D) (K : Kt) : oneRound (envOf tab SpT [] ((10, L_bk) :: lp) HT) Try.f5 0 (0) (mkF 130 [(0, .dat (.slc s25 l)), (1, .dat (.int .i64 m)), (2, .dat (.slc .one b)), (7, .dat (.slc s25 log)), (8, .dat (.int .i64 c))]) ([]) K =
  (bif decide (c < (↑(List.length l) : Int)) then
   (bif decide (c < 60) then
    (bif decide (0 ≤ c) then
     (bif decide (Int.toNat c < List.length l) then
      (bif okE (k25) (nthD l (Int.toNat c)) then
       (bif okA log (bo_t0 l c) then
        (bif addE log m (bo_t0 l c) != 0 then K (Exit.normal) (mkF 130 [(0, .dat (.slc (s25) l)), (1, .dat (.int .i64 m)), (2, .dat (.slc Sh.one b)), (7, .dat (.slc (s25) log)), (8, .dat (.int .i64 (bo_t4 c))), (25, .dat (.int .i64 c)), (26, .dat (.int .i64 (bo_t4 c)))]) ([]) else
         (bif D.eqb (D.bool ((↑(bo_t5 l m c log) : Int) != IntKind.wrap IntKind.i64 ((↑(List.length log) : Int) + 1))) (D.bool false) then
          (bif D.eqb (D.bool (decide ((↑(bo_t5 l m c log) : Int) > m))) (D.bool false) then
           (bif decide (Int.toNat (↑(List.length log) : Int) < List.length (addL log m (bo_t0 l c))) then
            (bif okE (k25) (bo_t2 l m c log) then
             (bif decide (0 ≤ c) then
              (bif decide (Int.toNat c < List.length l) then
               (bif okE (k25) (nthD l (Int.toNat c)) then
                (bif D.eqb (D.bool (true != (D.getI (nthD (D.getL (bo_t2 l m c log)) 0) == D.getI (nthD (bo_t3 l c) 0) && (bo_t1 l m c log)))) (D.bool false) then
                 (bif bkC log (addL log m (bo_t0 l c)) then K (Exit.normal) (mkF 130 [(0, .dat (.slc (s25) l)), (1, .dat (.int .i64 m)), (2, .dat (.slc Sh.one b)), (7, .dat (.slc (s25) (addL log m (bo_t0 l c)))), (8, .dat (.int .i64 (bo_t4 c))), (25, .dat (.int .i64 c)), (26, .dat (.int .i64 (bo_t4 c)))]) ([]) else none) else none) else none) else none) else none) else none) else none) else none) else none)) else none) else none) else none) else none) else K (Exit.exit 0) (mkF 130 [(2, .dat (.slc Sh.one b)), (7, .dat (.slc (s25) log))]) ([])) else K (Exit.exit 0) (mkF 130 [(2, .dat (.slc Sh.one b)), (7, .dat (.slc (s25) log))]) ([])) := by kernel_rfl
theorem bo_hr (lp : Loops) (l b : List D) (m : Int) : ∀ (sA : (Int × List D)) (K : Kt) (N : (Int × List D) → Option Res), (∀ sB fr' σ', cleanF (liveAt Try.f5 0) 0 fr' = bo_fr l b m sB → trim (0) (bo_fr l b m sB) σ' = bo_st l b m sB → K .normal fr' σ' = N sB) →
    oneRound (envOf tab SpT [] ((10, L_bk) :: lp) HT) Try.f5 0 (0) (bo_fr l b m sA) (bo_st l b m sA) K = (bo_step l b m sA).k (LK K N) := by
  intro sA K N hN
  obtain ⟨c, log⟩ := sA
  refine (bo_round lp l b m c log K).trans ?_
  show _ = T.k ((
  .chk (!decide (c < (↑(List.length l) : Int)) || (!decide (c < 60) || decide (0 ≤ c) && (decide (Int.toNat c < List.length l) && (okE (k25) (nthD l (Int.toNat c)) && (okA log (bo_t0 l c) && (addE log m (bo_t0 l c) != 0 || !(↑(bo_t5 l m c log) : Int) != IntKind.wrap IntKind.i64 ((↑(List.length log) : Int) + 1) && (!decide (m < (↑(bo_t5 l m c log) : Int)) && (decide (Int.toNat (↑(List.length log) : Int) < List.length (addL log m (bo_t0 l c))) && (okE (k25) (bo_t2 l m c log) && (D.getI (nthD (D.getL (bo_t2 l m c log)) 0) == D.getI (nthD (bo_t3 l c) 0) && (bo_t1 l m c log) && bkC log (addL log m (bo_t0 l c)))))))))))) (
   .br (!decide (c < (↑(List.length l) : Int)) || !decide (c < 60)) (.leaf (.inr ((some 0), mkF 130 [(2, .dat (.slc Sh.one b)), (7, .dat (.slc (s25) log))], []))) (.leaf (.inl ((bo_t4 c), (bif addE log m (bo_t0 l c) != 0 then log else addL log m (bo_t0 l c))))))) : T ((Int × List D) ⊕ LOut)) (LK K N)
  generalize (D.getI (nthD (D.getL (bo_t2 l m c log)) 0) == D.getI (nthD (bo_t3 l c) 0) && (bo_t1 l m c log)) = z0
  generalize (decide (Int.toNat (↑(List.length log) : Int) < List.length (addL log m (bo_t0 l c)))) = z1
  generalize (decide (m < (↑(bo_t5 l m c log) : Int))) = z2
  generalize (okE (k25) (bo_t2 l m c log)) = z3
  generalize ((↑(bo_t5 l m c log) : Int) != IntKind.wrap IntKind.i64 ((↑(List.length log) : Int) + 1)) = z4
  generalize (addE log m (bo_t0 l c) != 0) = z5
  generalize (bkC log (addL log m (bo_t0 l c))) = z6
  generalize (okA log (bo_t0 l c)) = z7
  generalize (okE (k25) (nthD l (Int.toNat c))) = z8
  generalize (decide (c < (↑(List.length l) : Int))) = z9
  generalize (decide (c < 60)) = z10
  generalize (decide (0 ≤ c)) = z11
  generalize (decide (Int.toNat c < List.length l)) = z12
  cases z9 with
  | true =>
   cases z10 with
   | true =>
    cases z11 with
    | true =>
     cases z12 with
     | true =>
      cases z8 with
      | true =>
       cases z7 with
       | true =>
        cases z5 with
        | true =>
         exact hN _ _ _ (by kernel_rfl) (by kernel_rfl)
        | false =>
         cases z4 with
         | true =>
          rfl
         | false =>
          cases z2 with
          | true =>
           rfl
          | false =>
           cases z1 with
           | true =>
            cases z3 with
            | true =>
             cases z0 with
             | true =>
              cases z6 with
              | true =>
               exact hN _ _ _ (by kernel_rfl) (by kernel_rfl)
              | false =>
               rfl
             | false =>
              rfl
            | false =>
             rfl
           | false =>
            rfl
       | false =>
        rfl
      | false =>
       rfl
     | false =>
      rfl
    | false =>
     rfl
   | false =>
    rfl
  | false =>
   rfl
theorem bo_enter (l b : List D) (m : Int) (c : Int) (log : List D) (fr : Frame') (hl : Nat.beq fr.length 130 = true) (g0 : fr.getD 0 .undef = .dat (.slc (s25) l)) (g1 : fr.getD 1 .undef = .dat (.int .i64 m)) (g2 : fr.getD 2 .undef = .dat (.slc Sh.one b)) (g7 : fr.getD 7 .undef = .dat (.slc (s25) log)) (g8 : fr.getD 8 .undef = .dat (.int .i64 c)) : cleanF (liveAt Try.f5 0) 0 fr = bo_fr l b m (c, log) := by
  have e : liveAt Try.f5 0 = [1, 0, 8, 7, 2] := by kernel_rfl
  rw [clean_mk (Nat.eq_of_beq_eq_true hl), e]
  show mkF 130 [(1, fr.getD 1 .undef), (0, fr.getD 0 .undef), (8, fr.getD 8 .undef), (7, fr.getD 7 .undef), (2, fr.getD 2 .undef)] = _
  rw [g1, g0, g8, g7, g2]
  kernel_rfl
end Go.Proofs.Ytdmmobjegfhneaa
