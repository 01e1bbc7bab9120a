/- Seat 02: WireTakes. -/
import Derived.Test.YtnailhdfopoibaaK
namespace Go.Proofs.Ytnailhdfopoibaa
open Go.AX
set_option maxRecDepth 100000

def askAll : List D → Sc × Rf → Sc × Rf
  | [], p => p
  | d :: l, p => askAll l (askOne d p.1 p.2)

def L_takes : Frame' → Store → T (Exit × Frame' × Store) := fun fr σ => match fr.getD 1 .undef, fr.getD 5 .undef, fr.getD 6 .undef, fr.getD 7 .undef, σ with
  | .dat (.slc (.agg [.one, .one, .one]) ls), .ptr (.agg [.one, .one, .one]) 0 0 [], .ptr (.agg [.one, .one, .one]) 1 0 [], .dat (.int .i64 i),
    [⟨.agg [.one, .one, .one], false, false, .dat (.agg [.slc .one ds, .int .i64 f, .bool b])⟩, ⟨.agg [.one, .one, .one], false, false, .dat (.agg [.slc .one rs, .int .i64 a, .int .i64 e])⟩] =>
    .chk (Nat.beq fr.length 140 && decide (i = 0) && decide (f = 0) && b && decide (a = 0) && decide (e = 0) && D.eqbL ds rs && ds.all okB && decide (ds.length ≤ LIM) && ls.all (okE askE) && decide (ls.length ≤ LIM))
      (.leaf (.exit 0, mkF 140 [(5, ptrS), (6, ptrR)], [scanB (askAll (ls.take 100) (⟨ds, 0, true⟩, ⟨ds, 0, 0⟩)).1, refB (askAll (ls.take 100) (⟨ds, 0, true⟩, ⟨ds, 0, 0⟩)).2]))
  | _, _, _, _, _ => .fail

abbrev E_takes : Env := envOf tab Sq [] [(3, L_takes)] []

theorem sim_all : ∀ (l : List D) (p : Sc × Rf) (_ : Sim p.1 p.2) (_ : ∀ d ∈ l, ∀ s r, Sim s r → Sim (askOne d s r).1 (askOne d s r).2), Sim (askAll l p).1 (askAll l p).2
  | [], _, h, _ => h
  | d :: l, _, h, k => sim_all l _ (k d List.mem_cons_self _ _ h) fun d' hd => k d' (List.mem_cons_of_mem _ hd)

theorem sim_one (d : D) (s : Sc) (r : Rf) (h : Sim s r) : Sim (askOne d s r).1 (askOne d s r).2 := by
  unfold askOne
  split
  · exact h.took _
  · split
    · exact h.text2 _
    · split
      · exact h.took _
      · split
        · exact h.rule false _
        · exact h.rule true _

theorem takes_loop (ls : List D) (hok : ls.all (okE askE) = true) (hl : ls.length ≤ LIM) : ∀ (j i : Nat) (s : Sc) (r : Rf) (fr : Frame') (K : Kt), i + j = min ls.length 100 → Sim s r →
    cleanF (liveAt Try.f4 0) 0 fr = mkF 140 [(1, .dat (.slc shS ls)), (5, ptrS), (6, ptrR), (7, .dat (.int .i64 (i : Int)))] →
    loopRun E_takes Try.f4 0 2 (j + 1) fr [scanB s, refB r] K = K (.exit 0) (mkF 140 [(5, ptrS), (6, ptrR)]) [scanB (askAll ((ls.take 100).drop i) (s, r)).1, refB (askAll ((ls.take 100).drop i) (s, r)).2] := by
  intro j
  induction j with
  | zero =>
    intro i s r fr K hij hs h1
    rw [loopRun_step h1 (trim_self (base := 2) (σ := [scanB s, refB r]) (Nat.le_refl 2)), takes_step [(3, L_takes)]]
    rw [List.drop_eq_nil_of_le (by rw [List.length_take]; omega)]
    by_cases hc : (i : Int) < (ls.length : Int)
    · have c1 : ¬ ((i : Int) < 100) := by omega
      rw [decide_eq_true hc, decide_eq_false c1]
      rfl
    · rw [decide_eq_false hc]
      rfl
  | succ j ih =>
    intro i s r fr K hij hs h1
    have hi : i < ls.length := by omega
    have hoki := List.all_eq_true.1 hok _ (nthD_mem hi)
    rw [loopRun_step h1 (trim_self (base := 2) (σ := [scanB s, refB r]) (Nat.le_refl 2))]
    obtain ⟨fr', hs', hc, hr⟩ := takes_round [(3, L_takes)] i ls s r (fun e fr σ => match e with
      | .normal => loopRun E_takes Try.f4 0 2 (j + 1) fr σ K
      | e => K e fr σ) hs hi (by omega) hoki hl
    refine hr.trans ?_
    show loopRun E_takes Try.f4 0 2 (j + 1) fr' _ K = _
    rw [ih (i + 1) _ _ fr' K (by omega) hs' hc]
    have hd : (ls.take 100).drop i = nthD ls i :: (ls.take 100).drop (i + 1) := by
      rw [drop_cons_nth (by rw [List.length_take]; omega)]
      congr 1
      unfold nthD
      rw [List.getD_eq_getElem?_getD, List.getD_eq_getElem?_getD, List.getElem?_take_of_lt (by omega)]
    rw [hd]
    rfl

theorem takes_loops : ∀ x ∈ fnLoops Try.f4, LoopOk E_takes x.1 x.2 := by
  refine loops_one (by kernel_rfl) (loop_ok (L := L_takes) (by kernel_rfl) ?_)
  intro fr σ p h K r hK
  unfold L_takes at h
  split at h
  · rename_i ls i ds f b rs a e g1 g5 g6 g7
    obtain ⟨hc, h'⟩ := T.chk_some h
    simp only [Bool.and_eq_true, decide_eq_true_eq] at hc
    obtain ⟨⟨⟨⟨⟨⟨⟨⟨⟨⟨c0, c1⟩, c2⟩, c3⟩, c4⟩, c5⟩, c6⟩, c7⟩, c8⟩, c9⟩, c10⟩ := hc
    have c0 := Nat.eq_of_beq_eq_true c0
    have c6 := D.eqL_of_eqb c6
    subst c1 c2 c3 c4 c5 c6
    have hp := T.leaf_some h'
    subst hp
    have hsim : Sim ⟨ds, 0, true⟩ ⟨ds, 0, 0⟩ := by
      refine ⟨rfl, rfl, fun _ => rfl, c7, c8, ?_⟩
      unfold Rf.ok
      simp only
      rw [okB_bytes c7, decide_eq_true c8, decide_eq_true (show (0 : Int) ≤ 0 by omega), decide_eq_true (show (0 : Int) ≤ (ds.length : Int) by omega)]
      rfl
    have hfr : cleanF (liveAt Try.f4 0) 0 fr = mkF 140 [(1, .dat (.slc shS ls)), (5, ptrS), (6, ptrR), (7, .dat (.int .i64 ((0 : Nat) : Int)))] := by
      rw [clean_mk c0, show AV.dat (.int .i64 ((0 : Nat) : Int)) = fr.getD 7 .undef from g7.symm, show ptrS = fr.getD 5 .undef from g5.symm, show ptrR = fr.getD 6 .undef from g6.symm, ← g1]
      kernel_rfl
    refine ⟨min ls.length 100 + 1, ?_⟩
    exact (takes_loop ls c9 c10 (min ls.length 100) 0 ⟨ds, 0, true⟩ ⟨ds, 0, 0⟩ _ K (by omega) hsim (by rw [clean_clean]; exact hfr)).trans hK
  · simp [T.run_fail] at h

theorem takes_run (ds ls : List D) : runF E_takes true Try.f4 [.dat (.slc .one ds), .dat (.slc shS ls)] [] =
  (bif D.eqbL ds ds && List.all ds okB && decide (List.length ds ≤ (35184372088832 : Nat)) && List.all ls (okE askE) && decide (List.length ls ≤ (35184372088832 : Nat)) then 
   (bif Rf.ok (Prod.snd (askAll (List.take (100 : Nat) ls) ({ ds := ds, f := (0 : Int), b := true }, { ds := ds, at_ := (0 : Int), e := (0 : Int) }))) then 
    (bif (Sc.left (Prod.fst (askAll (List.take (100 : Nat) ls) ({ ds := ds, f := (0 : Int), b := true }, { ds := ds, at_ := (0 : Int), e := (0 : Int) }))) == Rf.left (Prod.snd (askAll (List.take (100 : Nat) ls) ({ ds := ds, f := (0 : Int), b := true }, { ds := ds, at_ := (0 : Int), e := (0 : Int) })))) == true then 
     (bif Sc.left (Prod.fst (askAll (List.take (100 : Nat) ls) ({ ds := ds, f := (0 : Int), b := true }, { ds := ds, at_ := (0 : Int), e := (0 : Int) }))) == Rf.left (Prod.snd (askAll (List.take (100 : Nat) ls) ({ ds := ds, f := (0 : Int), b := true }, { ds := ds, at_ := (0 : Int), e := (0 : Int) }))) then some ([AV.dat (D.bool (Sc.endI (Prod.fst (askAll (List.take (100 : Nat) ls) ({ ds := ds, f := (0 : Int), b := true }, { ds := ds, at_ := (0 : Int), e := (0 : Int) }))) == Rf.endI (Prod.snd (askAll (List.take (100 : Nat) ls) ({ ds := ds, f := (0 : Int), b := true }, { ds := ds, at_ := (0 : Int), e := (0 : Int) })))))], []) else some ([AV.dat (D.bool false)], [])) else 
     (bif Sc.left (Prod.fst (askAll (List.take (100 : Nat) ls) ({ ds := ds, f := (0 : Int), b := true }, { ds := ds, at_ := (0 : Int), e := (0 : Int) }))) == Rf.left (Prod.snd (askAll (List.take (100 : Nat) ls) ({ ds := ds, f := (0 : Int), b := true }, { ds := ds, at_ := (0 : Int), e := (0 : Int) }))) then none else some ([AV.dat (D.bool false)], []))) else none) else none) := by kernel_rfl

theorem eqbL_self : ∀ {ds : List D}, ds.all okB = true → D.eqbL ds ds = true
  | [], _ => rfl
  | d :: ds, h => by
    simp only [List.all_cons, Bool.and_eq_true] at h
    obtain ⟨n, rfl, _⟩ := okB_spec h.1
    rw [D.eqbL, eqbL_self h.2, D.eqb]
    simp

theorem takes_true (ds ls : List D) (hb : ds.all okB = true) (hd : ds.length ≤ LIM) (hok : ls.all (okE askE) = true) (hl : ls.length ≤ LIM) :
    runF E_takes true Try.f4 [.dat (.slc .one ds), .dat (.slc shS ls)] [] = some ([.dat (.bool true)], []) := by
  rw [takes_run]
  have hsim : Sim ⟨ds, 0, true⟩ ⟨ds, 0, 0⟩ := by
    refine ⟨rfl, rfl, fun _ => rfl, hb, hd, ?_⟩
    unfold Rf.ok
    simp only
    rw [okB_bytes hb, decide_eq_true hd, decide_eq_true (show (0 : Int) ≤ 0 by omega), decide_eq_true (show (0 : Int) ≤ (ds.length : Int) by omega)]
    rfl
  have h := sim_all (ls.take 100) (⟨ds, 0, true⟩, ⟨ds, 0, 0⟩) hsim fun d _ s r => sim_one d s r
  unfold LIM at hd hl
  rw [eqbL_self hb, hb, decide_eq_true hd, hok, decide_eq_true hl, h.ok, h.left_eq, h.end_eq]
  simp only [beq_self_eq_true, Bool.and_true, cond_true]

end Go.Proofs.Ytnailhdfopoibaa
