/- Seat 16: the loops over items. -/
import Derived.Test.YtnegedbjcjfndaaD
namespace Go.Proofs.Ytnegedbjcjfndaa
open Go.AX
set_option maxRecDepth 100000

theorem ekI_form {d : D} (h : okE ekI d = true) : ∃ u s k w a b, d = .agg [.bool u, .str s, .int .i64 k, .int .i64 w, .agg [.int .i64 a, .int .i64 b]] := by
  obtain ⟨p, q, r, s, t, rfl, h1, h2, h3, h4, h5⟩ := okE_agg5 h
  obtain ⟨u, rfl⟩ := okE_bool h1
  obtain ⟨n, rfl⟩ := okE_str h2
  obtain ⟨k, rfl⟩ := okE_int h3
  obtain ⟨w, rfl⟩ := okE_int h4
  obtain ⟨a, b, rfl, h6, h7⟩ := okE_agg2 h5
  obtain ⟨a, rfl⟩ := okE_int h6
  obtain ⟨b, rfl⟩ := okE_int h7
  exact ⟨u, n, k, w, a, b, rfl⟩
def okI (d : D) : Bool := okE ekI d && (rright_pre (fS d) && nright_pre (fS d))
def okIs (ls : List D) : Bool := ls.all okI && decide (ls.length ≤ 1099511627776)
def okEs (ls : List D) : Bool := ls.all (okE ekI) && decide (ls.length ≤ 1099511627776)
theorem okIs_spec {ls : List D} (h : okIs ls = true) : ls.all okI = true ∧ ls.length ≤ 1099511627776 := by
  unfold okIs at h
  simpa only [Bool.and_eq_true, decide_eq_true_eq] using h
theorem okEs_spec {ls : List D} (h : okEs ls = true) : ls.all (okE ekI) = true ∧ ls.length ≤ 1099511627776 := by
  unfold okEs at h
  simpa only [Bool.and_eq_true, decide_eq_true_eq] using h
theorem okI_spec {d : D} (h : okI d = true) : okE ekI d = true ∧ rright_pre (fS d) = true ∧ nright_pre (fS d) = true := by
  unfold okI at h
  simpa only [Bool.and_eq_true] using h
theorem okI_nth {ls : List D} (h : okIs ls = true) {i : Nat} (hi : i < ls.length) : okI (nthD ls i) = true := List.all_eq_true.1 (okIs_spec h).1 _ (nthD_mem hi)
theorem okIs_E {ls : List D} (h : okIs ls = true) : okEs ls = true := by
  obtain ⟨h1, h2⟩ := okIs_spec h
  unfold okEs
  rw [decide_eq_true h2, Bool.and_true, List.all_eq_true]
  exact fun d hd => (okI_spec (List.all_eq_true.1 h1 d hd)).1

/-! Which items may be. -/
abbrev badR (d : D) : Bool := bif D.getB (nthD (D.getL d) (0 : Nat)) then bif D.getI (nthD (D.getL d) (2 : Nat)) == (1 : Int) then bif rnum_v0 (D.getI (nthD (D.getL d) (3 : Nat))) then bif D.getI (nthD (D.getL d) (2 : Nat)) == (2 : Int) then bif D.getI (nthD (D.getL d) (3 : Nat)) == (0 : Int) then !rright_v0 (D.getS (nthD (D.getL d) (1 : Nat))) || !(D.getI (nthD (D.getL (nthD (D.getL d) (4 : Nat))) (0 : Nat)) == (0 : Int) && (D.getI (nthD (D.getL (nthD (D.getL d) (4 : Nat))) (1 : Nat)) == (0 : Int) && true)) && !rref_v0 (D.getI (nthD (D.getL (nthD (D.getL d) (4 : Nat))) (0 : Nat))) (D.getI (nthD (D.getL (nthD (D.getL d) (4 : Nat))) (1 : Nat))) else !rright_v0 (D.getS (nthD (D.getL d) (1 : Nat))) || !(D.getI (nthD (D.getL (nthD (D.getL d) (4 : Nat))) (0 : Nat)) == (0 : Int) && (D.getI (nthD (D.getL (nthD (D.getL d) (4 : Nat))) (1 : Nat)) == (0 : Int) && true)) else !rright_v0 (D.getS (nthD (D.getL d) (1 : Nat))) || !(D.getI (nthD (D.getL (nthD (D.getL d) (4 : Nat))) (0 : Nat)) == (0 : Int) && (D.getI (nthD (D.getL (nthD (D.getL d) (4 : Nat))) (1 : Nat)) == (0 : Int) && true)) else !D.getI (nthD (D.getL d) (2 : Nat)) == (2 : Int) || (!D.getI (nthD (D.getL d) (3 : Nat)) == (0 : Int) || (!rright_v0 (D.getS (nthD (D.getL d) (1 : Nat))) || !rref_v0 (D.getI (nthD (D.getL (nthD (D.getL d) (4 : Nat))) (0 : Nat))) (D.getI (nthD (D.getL (nthD (D.getL d) (4 : Nat))) (1 : Nat))))) else bif D.getI (nthD (D.getL d) (2 : Nat)) == (3 : Int) then bif rnum_v0 (D.getI (nthD (D.getL d) (3 : Nat))) then bif D.getI (nthD (D.getL d) (2 : Nat)) == (2 : Int) then bif D.getI (nthD (D.getL d) (3 : Nat)) == (0 : Int) then !rright_v0 (D.getS (nthD (D.getL d) (1 : Nat))) || !(D.getI (nthD (D.getL (nthD (D.getL d) (4 : Nat))) (0 : Nat)) == (0 : Int) && (D.getI (nthD (D.getL (nthD (D.getL d) (4 : Nat))) (1 : Nat)) == (0 : Int) && true)) && !rref_v0 (D.getI (nthD (D.getL (nthD (D.getL d) (4 : Nat))) (0 : Nat))) (D.getI (nthD (D.getL (nthD (D.getL d) (4 : Nat))) (1 : Nat))) else !rright_v0 (D.getS (nthD (D.getL d) (1 : Nat))) || !(D.getI (nthD (D.getL (nthD (D.getL d) (4 : Nat))) (0 : Nat)) == (0 : Int) && (D.getI (nthD (D.getL (nthD (D.getL d) (4 : Nat))) (1 : Nat)) == (0 : Int) && true)) else !rright_v0 (D.getS (nthD (D.getL d) (1 : Nat))) || !(D.getI (nthD (D.getL (nthD (D.getL d) (4 : Nat))) (0 : Nat)) == (0 : Int) && (D.getI (nthD (D.getL (nthD (D.getL d) (4 : Nat))) (1 : Nat)) == (0 : Int) && true)) else !D.getI (nthD (D.getL d) (2 : Nat)) == (2 : Int) || (!D.getI (nthD (D.getL d) (3 : Nat)) == (0 : Int) || (!rright_v0 (D.getS (nthD (D.getL d) (1 : Nat))) || !rref_v0 (D.getI (nthD (D.getL (nthD (D.getL d) (4 : Nat))) (0 : Nat))) (D.getI (nthD (D.getL (nthD (D.getL d) (4 : Nat))) (1 : Nat))))) else !D.getI (nthD (D.getL d) (2 : Nat)) == (2 : Int) || (!D.getI (nthD (D.getL d) (3 : Nat)) == (0 : Int) || (!rright_v0 (D.getS (nthD (D.getL d) (1 : Nat))) || !rref_v0 (D.getI (nthD (D.getL (nthD (D.getL d) (4 : Nat))) (0 : Nat))) (D.getI (nthD (D.getL (nthD (D.getL d) (4 : Nat))) (1 : Nat))))) else !(D.getB (nthD (D.getL d) (0 : Nat)) == false && (decide (Array.toList (ByteArray.data (D.getS (nthD (D.getL d) (1 : Nat)))) = []) && (D.getI (nthD (D.getL d) (2 : Nat)) == (0 : Int) && (D.getI (nthD (D.getL d) (3 : Nat)) == (0 : Int) && (D.getI (nthD (D.getL (nthD (D.getL d) (4 : Nat))) (0 : Nat)) == (0 : Int) && (D.getI (nthD (D.getL (nthD (D.getL d) (4 : Nat))) (1 : Nat)) == (0 : Int) && true) && true)))))
abbrev xblk (d : D) : Blk := { sh := Sh.agg [Sh.one, Sh.one, Sh.one, Sh.one, Sh.agg [Sh.one, Sh.one]], dyn := false, frz := false, v := AV.dat (D.agg [D.bool (fU d), D.str (fS d), D.int IntKind.i64 (fK d), D.int IntKind.i64 (fW d), D.agg [D.int IntKind.i64 (fA d), D.int IntKind.i64 (fB d)]]) }
theorem rr13_closed (ls : List D) (hc : okIs ls = true) :
    ∃ m, (iterT (rr13_step ls) m 0).run = T.run (.br (ls.any badR) (.leaf (none, mkF 67 [(2, .dat (.bool false))], [xblk (nthD ls (ls.findIdx badR))])) (.leaf (some 0, mkF 67 [], []))) := by
  obtain ⟨_, h2⟩ := okIs_spec hc
  obtain ⟨m, hm⟩ := iter_find (step := rr13_step ls) (ls := ls) (p := badR) (o := fun i => (none, mkF 67 [(2, .dat (.bool false))], [xblk (nthD ls i)])) (o' := (some 0, mkF 67 [], []))
    (fun k hk => by
      have hq := okI_spec (okI_nth hc hk)
      unfold rr13_step
      simp only [decide_eq_true (show (k : Int) < (ls.length : Int) by omega), decide_eq_true (show (0 : Int) ≤ (k : Int) by omega), Int.toNat_natCast, decide_eq_true hk, hq, wrap_succ (show k < 2 ^ 62 by omega), Bool.not_true, Bool.true_and, Bool.or_true, T.run_br, T.run_chk, T.run_leaf, cond_true, cond_false]
      exact bif_some (badR (nthD ls k)) _ _)
    (by
      unfold rr13_step
      rw [decide_eq_false (show ¬ (ls.length : Int) < (ls.length : Int) by omega)]
      rfl)
  refine ⟨m, hm.trans ?_⟩
  cases ls.any badR <;> rfl
def L_rr13 : Frame' → Store → T (Exit × Frame' × Store) := fun fr σ => match fr.getD 0 .undef, fr.getD 3 .undef, σ with
  | AV.dat (D.slc (Sh.agg [Sh.one, Sh.one, Sh.one, Sh.one, Sh.agg [Sh.one, Sh.one]]) ls), AV.dat (D.int IntKind.i64 0), [] => .chk (Nat.beq fr.length 67 && (okIs ls)) (T.bind (.br (ls.any badR) (.leaf (none, mkF 67 [(2, .dat (.bool false))], [xblk (nthD ls (ls.findIdx badR))])) (.leaf (some 0, mkF 67 [], []))) fun o => .leaf (outEx o.1, o.2.1, o.2.2))
  | _, _, _ => .fail
theorem rr13_sem (lp : Loops) : ∀ fr σ p, (L_rr13 fr σ).run = some p → ∀ (K : Kt) r, K p.1 p.2.1 p.2.2 = some r → ∃ n, loopRun (envOf tab SpD1 [] lp []) Try.f13 0 σ.length n (cleanF (liveAt Try.f13 0) 0 fr) σ K = some r := by
  intro fr σ p h K r hK
  unfold L_rr13 at h
  split at h
  · rename_i ls g0 g3
    obtain ⟨hc, h'⟩ := T.chk_some h
    rw [Bool.and_eq_true] at hc
    obtain ⟨hl, hc⟩ := hc
    obtain ⟨o, ho, h'⟩ := T.bind_some h'
    have hp := T.leaf_some h'
    subst hp
    obtain ⟨nF, hn⟩ : ∃ nF, (iterT (rr13_step ls) nF (0)).run = T.run (.br (ls.any badR) (.leaf (none, mkF 67 [(2, .dat (.bool false))], [xblk (nthD ls (ls.findIdx badR))])) (.leaf (some 0, mkF 67 [], []))) := rr13_closed ls hc
    rw [ho] at hn
    refine ⟨nF, ?_⟩
    have he : cleanF (liveAt Try.f13 0) 0 fr = rr13_fr ls (0) := rr13_enter ls _ fr hl g0 g3
    refine (iter_ok (base := 0) (rr13_hr lp ls) K nF (0) _ _ (by rw [clean_clean]; exact he) (by kernel_rfl)).trans ?_
    rw [T.k_run hn]
    exact hK
  · simp [T.run_fail] at h
theorem rr13_loopOk (lp : Loops) (hk : Loops.get lp 2 = some L_rr13) : LoopOk (envOf tab SpD1 [] lp []) (loopAt Try.f13 0).1 (loopAt Try.f13 0).2 := loop_ok (L := L_rr13) hk (rr13_sem lp)

def rrt_v0 (ls : List D) : Bool := !List.any ls badR
def C_rrt : FunT := fun args σ => match args, σ with
  | [AV.dat (D.slc (Sh.agg [Sh.one, Sh.one, Sh.one, Sh.one, Sh.agg [Sh.one, Sh.one]]) ls)], [] => .chk (okIs ls) (.leaf ([AV.dat (D.bool (rrt_v0 ls))], []))
  | _, _ => .fail
theorem rrt_raw0 (ls : List D) : runF (envOf tab SpD1 [] [(2, L_rr13)] []) true Try.f13 [.dat (.slc (.agg [.one, .one, .one, .one, .agg [.one, .one]]) ls)] [] =
  (bif okIs ls then 
   (bif List.any ls badR then some ([AV.dat (D.bool false)], []) else some ([AV.dat (D.bool true)], [])) else none) := by kernel_rfl
theorem rrt_case0 (ls : List D) : runF (envOf tab SpD1 [] [(2, L_rr13)] []) true Try.f13 [.dat (.slc (.agg [.one, .one, .one, .one, .agg [.one, .one]]) ls)] [] = FunT.run C_rrt [.dat (.slc (.agg [.one, .one, .one, .one, .agg [.one, .one]]) ls)] [] := (rrt_raw0 ls).trans (by
  show _ = (cond (okIs ls) (some (([AV.dat (D.bool !List.any ls badR)], []) : Res)) none)
  generalize (List.any ls badR) = z0
  generalize (okIs ls) = z1
  cases z1 with
  | true =>
   cases z0 with
   | true =>
    rfl
   | false =>
    rfl
  | false =>
   rfl
  )
theorem crrt_ok : FunOk Try.prog 13 (FunT.run C_rrt) := by
  refine fun_ok (E := envOf tab SpD1 [] [(2, L_rr13)] []) (fz := true) (fn := Try.f13) (envOf_ok progOk SpD1_ok) (by kernel_rfl) (by kernel_rfl) (loops_one (by kernel_rfl) (rr13_loopOk _ rfl)) ?_
  intro args σ r h
  unfold C_rrt at h
  split at h
  · exact (rrt_case0 _).trans h
  · simp [T.run_fail] at h


/-! Equal lists. -/
abbrev eqI (x y : D) : Bool := D.getB (nthD (D.getL x) (0 : Nat)) == D.getB (nthD (D.getL y) (0 : Nat)) && (decide (Array.toList (ByteArray.data (D.getS (nthD (D.getL x) (1 : Nat)))) = Array.toList (ByteArray.data (D.getS (nthD (D.getL y) (1 : Nat))))) && (D.getI (nthD (D.getL x) (2 : Nat)) == D.getI (nthD (D.getL y) (2 : Nat)) && (D.getI (nthD (D.getL x) (3 : Nat)) == D.getI (nthD (D.getL y) (3 : Nat)) && (D.getI (nthD (D.getL (nthD (D.getL x) (4 : Nat))) (0 : Nat)) == D.getI (nthD (D.getL (nthD (D.getL y) (4 : Nat))) (0 : Nat)) && (D.getI (nthD (D.getL (nthD (D.getL x) (4 : Nat))) (1 : Nat)) == D.getI (nthD (D.getL (nthD (D.getL y) (4 : Nat))) (1 : Nat)) && true) && true))))
theorem toList_eq {s t : ByteArray} : s.data.toList = t.data.toList ↔ s = t := by
  constructor
  · intro h
    cases s; cases t
    congr 1
    exact Array.toList_inj.1 h
  · intro h; rw [h]
theorem eqI_eqb {x y : D} (hx : okE ekI x = true) (hy : okE ekI y = true) : eqI x y = D.eqb x y := by
  obtain ⟨u, s, k, w, a, b, rfl⟩ := ekI_form hx
  obtain ⟨u', s', k', w', a', b', rfl⟩ := ekI_form hy
  refine bool_ext ?_
  rw [eqb_iff]
  show (u == u' && (decide (s.data.toList = s'.data.toList) && (k == k' && (w == w' && (a == a' && (b == b' && true) && true))))) = true ↔ _
  simp only [Bool.and_true, Bool.and_eq_true, beq_iff_eq, decide_eq_true_eq, toList_eq, D.agg.injEq, List.cons.injEq, D.bool.injEq, D.str.injEq, D.int.injEq, true_and, and_true]
theorem sm_closed (a b : List D) (hc : (okEs a && okEs b && Nat.beq a.length b.length) = true) :
    ∃ m, (iterT (sm_step a b) m 0).run = T.run (.br (D.eqbL a b) (.leaf (some 0, mkF 26 [], [])) (.leaf (none, mkF 26 [(4, .dat (.bool false))], []))) := by
  simp only [Bool.and_eq_true] at hc
  obtain ⟨⟨ha, hb⟩, hl⟩ := hc
  have hl := Nat.eq_of_beq_eq_true hl
  obtain ⟨h1, h2⟩ := okEs_spec ha
  obtain ⟨h3, _⟩ := okEs_spec hb
  obtain ⟨m, hm⟩ := iter_any (step := sm_step a b) (n := a.length) (p := fun i => !eqI (nthD a i) (nthD b i)) (o := (none, mkF 26 [(4, .dat (.bool false))], [])) (o' := (some 0, mkF 26 [], []))
    (fun k hk => by
      unfold sm_step
      simp only [decide_eq_true (show (k : Int) < (a.length : Int) by omega), decide_eq_true (show (0 : Int) ≤ (k : Int) by omega), Int.toNat_natCast, decide_eq_true hk, decide_eq_true (show k < b.length by omega), allE_nth h1 hk, allE_nth h3 (show k < b.length by omega), wrap_succ (show k < 2 ^ 62 by omega), Bool.not_true, Bool.false_or, Bool.true_and, T.run_br, T.run_chk, T.run_leaf, cond_true, cond_false]
      exact bif_some (!eqI (nthD a k) (nthD b k)) _ _)
    (by
      unfold sm_step
      rw [decide_eq_false (show ¬ (a.length : Int) < (a.length : Int) by omega)]
      rfl)
  refine ⟨m, hm.trans ?_⟩
  rw [any_eqbL hl (fun i hi => eqI_eqb (allE_nth h1 hi) (allE_nth h3 (by omega)))]
  cases D.eqbL a b <;> rfl
def L_sm : Frame' → Store → T (Exit × Frame' × Store) := fun fr σ => match fr.getD 0 .undef, fr.getD 1 .undef, fr.getD 5 .undef, σ with
  | AV.dat (D.slc (Sh.agg [Sh.one, Sh.one, Sh.one, Sh.one, Sh.agg [Sh.one, Sh.one]]) a), AV.dat (D.slc (Sh.agg [Sh.one, Sh.one, Sh.one, Sh.one, Sh.agg [Sh.one, Sh.one]]) b), AV.dat (D.int IntKind.i64 0), [] => .chk (Nat.beq fr.length 26 && (okEs a && okEs b && Nat.beq a.length b.length)) (T.bind (.br (D.eqbL a b) (.leaf (some 0, mkF 26 [], [])) (.leaf (none, mkF 26 [(4, .dat (.bool false))], []))) fun o => .leaf (outEx o.1, o.2.1, o.2.2))
  | _, _, _, _ => .fail
theorem sm_sem (lp : Loops) : ∀ fr σ p, (L_sm fr σ).run = some p → ∀ (K : Kt) r, K p.1 p.2.1 p.2.2 = some r → ∃ n, loopRun (envOf tab [] [] lp []) Try.f12 0 σ.length n (cleanF (liveAt Try.f12 0) 0 fr) σ K = some r := by
  intro fr σ p h K r hK
  unfold L_sm at h
  split at h
  · rename_i a b g0 g1 g5
    obtain ⟨hc, h'⟩ := T.chk_some h
    rw [Bool.and_eq_true] at hc
    obtain ⟨hl, hc⟩ := hc
    obtain ⟨o, ho, h'⟩ := T.bind_some h'
    have hp := T.leaf_some h'
    subst hp
    obtain ⟨nF, hn⟩ : ∃ nF, (iterT (sm_step a b) nF (0)).run = T.run (.br (D.eqbL a b) (.leaf (some 0, mkF 26 [], [])) (.leaf (none, mkF 26 [(4, .dat (.bool false))], []))) := sm_closed a b hc
    rw [ho] at hn
    refine ⟨nF, ?_⟩
    have he : cleanF (liveAt Try.f12 0) 0 fr = sm_fr a b (0) := sm_enter a b _ fr hl g0 g1 g5
    refine (iter_ok (base := 0) (sm_hr lp a b) K nF (0) _ _ (by rw [clean_clean]; exact he) (by kernel_rfl)).trans ?_
    rw [T.k_run hn]
    exact hK
  · simp [T.run_fail] at h
theorem sm_loopOk (lp : Loops) (hk : Loops.get lp 4 = some L_sm) : LoopOk (envOf tab [] [] lp []) (loopAt Try.f12 0).1 (loopAt Try.f12 0).2 := loop_ok (L := L_sm) hk (sm_sem lp)

def same_v0 (a : List D) (b : List D) : Bool := !(↑(List.length a) : Int) != (↑(List.length b) : Int) && D.eqbL a b
def same_pre (a : List D) (b : List D) : Bool := (↑(List.length a) : Int) != (↑(List.length b) : Int) || okEs a && okEs b && Nat.beq (List.length a) (List.length b)
def C_same : FunT := fun args σ => match args, σ with
  | [AV.dat (D.slc (Sh.agg [Sh.one, Sh.one, Sh.one, Sh.one, Sh.agg [Sh.one, Sh.one]]) a), AV.dat (D.slc (Sh.agg [Sh.one, Sh.one, Sh.one, Sh.one, Sh.agg [Sh.one, Sh.one]]) b)], [] => .chk ((same_pre a b)) (.leaf ([AV.dat (D.bool (same_v0 a b))], []))
  | _, _ => .fail
theorem same_raw0 (a b : List D) : runF (envOf tab [] [] [(4, L_sm)] []) true Try.f12 [.dat (.slc (.agg [.one, .one, .one, .one, .agg [.one, .one]]) a), .dat (.slc (.agg [.one, .one, .one, .one, .agg [.one, .one]]) b)] [] =
  (bif (↑(List.length a) : Int) != (↑(List.length b) : Int) then some ([AV.dat (D.bool false)], []) else 
   (bif okEs a && okEs b && Nat.beq (List.length a) (List.length b) then 
    (bif D.eqbL a b then some ([AV.dat (D.bool true)], []) else some ([AV.dat (D.bool false)], [])) else none)) := by kernel_rfl
theorem same_case0 (a b : List D) : runF (envOf tab [] [] [(4, L_sm)] []) true Try.f12 [.dat (.slc (.agg [.one, .one, .one, .one, .agg [.one, .one]]) a), .dat (.slc (.agg [.one, .one, .one, .one, .agg [.one, .one]]) b)] [] = FunT.run C_same [.dat (.slc (.agg [.one, .one, .one, .one, .agg [.one, .one]]) a), .dat (.slc (.agg [.one, .one, .one, .one, .agg [.one, .one]]) b)] [] := (same_raw0 a b).trans (by
  show _ = (cond ((↑(List.length a) : Int) != (↑(List.length b) : Int) || okEs a && okEs b && Nat.beq (List.length a) (List.length b)) (some (([AV.dat (D.bool (!(↑(List.length a) : Int) != (↑(List.length b) : Int) && D.eqbL a b))], []) : Res)) none)
  generalize ((↑(List.length a) : Int) != (↑(List.length b) : Int)) = z0
  generalize (okEs a && okEs b && Nat.beq (List.length a) (List.length b)) = z1
  generalize (D.eqbL a b) = z2
  cases z0 with
  | true =>
   rfl
  | false =>
   cases z1 with
   | true =>
    cases z2 with
    | true =>
     rfl
    | false =>
     rfl
   | false =>
    rfl
  )
theorem csame_ok : FunOk Try.prog 12 (FunT.run C_same) := by
  refine fun_ok (E := envOf tab [] [] [(4, L_sm)] []) (fz := true) (fn := Try.f12) (envOf_ok progOk (.nil _)) (by kernel_rfl) (by kernel_rfl) (loops_one (by kernel_rfl) (sm_loopOk _ rfl)) ?_
  intro args σ r h
  unfold C_same at h
  split at h
  · exact (same_case0 _ _).trans h
  · simp [T.run_fail] at h

def okL (ls : List D) : Bool := ls.all (okE (.int .i64)) && decide (ls.length ≤ 1099511627776)
theorem okL_spec {ls : List D} (h : okL ls = true) : ls.all (okE (.int .i64)) = true ∧ ls.length ≤ 1099511627776 := by
  unfold okL at h
  simpa only [Bool.and_eq_true, decide_eq_true_eq] using h
theorem ints_closed (a b : List D) (hc : (okL a && okL b && Nat.beq a.length b.length) = true) :
    ∃ m, (iterT (ints_step a b) m 0).run = T.run (.br (D.eqbL a b) (.leaf (some 0, mkF 26 [], [])) (.leaf (none, mkF 26 [(4, .dat (.bool false))], []))) := by
  simp only [Bool.and_eq_true] at hc
  obtain ⟨⟨ha, hb⟩, hl⟩ := hc
  have hl := Nat.eq_of_beq_eq_true hl
  obtain ⟨h1, h2⟩ := okL_spec ha
  obtain ⟨h3, _⟩ := okL_spec hb
  obtain ⟨m, hm⟩ := iter_any (step := ints_step a b) (n := a.length) (p := fun i => D.getI (nthD a i) != D.getI (nthD b i)) (o := (none, mkF 26 [(4, .dat (.bool false))], [])) (o' := (some 0, mkF 26 [], []))
    (fun k hk => by
      unfold ints_step
      simp only [decide_eq_true (show (k : Int) < (a.length : Int) by omega), decide_eq_true (show (0 : Int) ≤ (k : Int) by omega), Int.toNat_natCast, decide_eq_true hk, decide_eq_true (show k < b.length by omega), allE_nth h1 hk, allE_nth h3 (show k < b.length by omega), wrap_succ (show k < 2 ^ 62 by omega), Bool.not_true, Bool.false_or, Bool.true_and, T.run_br, T.run_chk, T.run_leaf, cond_true, cond_false]
      exact bif_some (D.getI (nthD a k) != D.getI (nthD b k)) _ _)
    (by
      unfold ints_step
      rw [decide_eq_false (show ¬ (a.length : Int) < (a.length : Int) by omega)]
      rfl)
  refine ⟨m, hm.trans ?_⟩
  rw [eqbL_range a b hl h1 h3]
  cases D.eqbL a b <;> rfl
def L_ints : Frame' → Store → T (Exit × Frame' × Store) := fun fr σ => match fr.getD 0 .undef, fr.getD 1 .undef, fr.getD 5 .undef, σ with
  | AV.dat (D.slc Sh.one a), AV.dat (D.slc Sh.one b), AV.dat (D.int IntKind.i64 0), [] => .chk (Nat.beq fr.length 26 && (okL a && okL b && Nat.beq a.length b.length)) (T.bind (.br (D.eqbL a b) (.leaf (some 0, mkF 26 [], [])) (.leaf (none, mkF 26 [(4, .dat (.bool false))], []))) fun o => .leaf (outEx o.1, o.2.1, o.2.2))
  | _, _, _, _ => .fail
theorem ints_sem (lp : Loops) : ∀ fr σ p, (L_ints fr σ).run = some p → ∀ (K : Kt) r, K p.1 p.2.1 p.2.2 = some r → ∃ n, loopRun (envOf tab [] [] lp []) Try.f25 0 σ.length n (cleanF (liveAt Try.f25 0) 0 fr) σ K = some r := by
  intro fr σ p h K r hK
  unfold L_ints at h
  split at h
  · rename_i a b g0 g1 g5
    obtain ⟨hc, h'⟩ := T.chk_some h
    rw [Bool.and_eq_true] at hc
    obtain ⟨hl, hc⟩ := hc
    obtain ⟨o, ho, h'⟩ := T.bind_some h'
    have hp := T.leaf_some h'
    subst hp
    obtain ⟨nF, hn⟩ : ∃ nF, (iterT (ints_step a b) nF (0)).run = T.run (.br (D.eqbL a b) (.leaf (some 0, mkF 26 [], [])) (.leaf (none, mkF 26 [(4, .dat (.bool false))], []))) := ints_closed a b hc
    rw [ho] at hn
    refine ⟨nF, ?_⟩
    have he : cleanF (liveAt Try.f25 0) 0 fr = ints_fr a b (0) := ints_enter a b _ fr hl g0 g1 g5
    refine (iter_ok (base := 0) (ints_hr lp a b) K nF (0) _ _ (by rw [clean_clean]; exact he) (by kernel_rfl)).trans ?_
    rw [T.k_run hn]
    exact hK
  · simp [T.run_fail] at h
theorem ints_loopOk (lp : Loops) (hk : Loops.get lp 4 = some L_ints) : LoopOk (envOf tab [] [] lp []) (loopAt Try.f25 0).1 (loopAt Try.f25 0).2 := loop_ok (L := L_ints) hk (ints_sem lp)

def inte_v0 (a : List D) (b : List D) : Bool := !(↑(List.length a) : Int) != (↑(List.length b) : Int) && D.eqbL a b
def inte_pre (a : List D) (b : List D) : Bool := (↑(List.length a) : Int) != (↑(List.length b) : Int) || okL a && okL b && Nat.beq (List.length a) (List.length b)
def C_inte : FunT := fun args σ => match args, σ with
  | [AV.dat (D.slc Sh.one a), AV.dat (D.slc Sh.one b)], [] => .chk ((inte_pre a b)) (.leaf ([AV.dat (D.bool (inte_v0 a b))], []))
  | _, _ => .fail
theorem inte_raw0 (a b : List D) : runF (envOf tab [] [] [(4, L_ints)] []) true Try.f25 [.dat (.slc .one a), .dat (.slc .one b)] [] =
  (bif (↑(List.length a) : Int) != (↑(List.length b) : Int) then some ([AV.dat (D.bool false)], []) else 
   (bif okL a && okL b && Nat.beq (List.length a) (List.length b) then 
    (bif D.eqbL a b then some ([AV.dat (D.bool true)], []) else some ([AV.dat (D.bool false)], [])) else none)) := by kernel_rfl
theorem inte_case0 (a b : List D) : runF (envOf tab [] [] [(4, L_ints)] []) true Try.f25 [.dat (.slc .one a), .dat (.slc .one b)] [] = FunT.run C_inte [.dat (.slc .one a), .dat (.slc .one b)] [] := (inte_raw0 a b).trans (by
  show _ = (cond ((↑(List.length a) : Int) != (↑(List.length b) : Int) || okL a && okL b && Nat.beq (List.length a) (List.length b)) (some (([AV.dat (D.bool (!(↑(List.length a) : Int) != (↑(List.length b) : Int) && D.eqbL a b))], []) : Res)) none)
  generalize ((↑(List.length a) : Int) != (↑(List.length b) : Int)) = z0
  generalize (okL a && okL b && Nat.beq (List.length a) (List.length b)) = z1
  generalize (D.eqbL a b) = z2
  cases z0 with
  | true =>
   rfl
  | false =>
   cases z1 with
   | true =>
    cases z2 with
    | true =>
     rfl
    | false =>
     rfl
   | false =>
    rfl
  )
theorem cinte_ok : FunOk Try.prog 25 (FunT.run C_inte) := by
  refine fun_ok (E := envOf tab [] [] [(4, L_ints)] []) (fz := true) (fn := Try.f25) (envOf_ok progOk (.nil _)) (by kernel_rfl) (by kernel_rfl) (loops_one (by kernel_rfl) (ints_loopOk _ rfl)) ?_
  intro args σ r h
  unfold C_inte at h
  split at h
  · exact (inte_case0 _ _).trans h
  · simp [T.run_fail] at h


end Go.Proofs.Ytnegedbjcjfndaa
