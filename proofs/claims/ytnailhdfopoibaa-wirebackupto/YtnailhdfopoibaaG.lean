/- Seat 02: numbers and texts out of the document's scan. -/
import Derived.Test.YtnailhdfopoibaaF
namespace Go.Proofs.Ytnailhdfopoibaa
open Go.AX
set_option maxRecDepth 100000

def stepR (n x : Int) : Int := IntKind.wrap .u64 (IntKind.wrap .u64 (n * 256) + IntKind.wrap .u64 x)
def numR (n : Int) : List D → Int
  | [] => n
  | d :: ds => numR (stepR n d.getI) ds

def L_rsnum : Frame' → Store → T (Exit × Frame' × Store) := fun fr σ => match fr.getD 5 .undef, fr.getD 6 .undef, fr.getD 7 .undef with
  | .dat (.slc .one ds), .dat (.int .u64 n), .dat (.int .i64 i) =>
    .chk (Nat.beq fr.length 27 && decide (i = 0) && isBytes ds && decide (ds.length ≤ LIM)) (.leaf (.exit 0, mkF 27 [(6, .dat (.int .u64 (numR n ds)))], σ))
  | _, _, _ => .fail

abbrev E_rsnum : Env := envOf tab [(27, S_size), (17, S_rtake)] [] [(4, L_rsnum)] []

theorem rsnum_step (n i : Int) (ds : List D) (σ : Store) (b : Nat) (K : Kt) : oneRound E_rsnum Try.f13 0 b (mkF 27 [(5, .dat (.slc .one ds)), (6, .dat (.int .u64 n)), (7, .dat (.int .i64 i))]) σ K =
  (bif decide (i < (↑(List.length ds) : Int)) then 
   (bif decide ((0 : Int) ≤ i) then 
    (bif decide (Int.toNat i < List.length ds) then 
     (bif okE (Ek.int IntKind.u8) (nthD ds (Int.toNat i)) then K (Exit.normal) (mkF (27 : Nat) [((5 : Nat), AV.dat (D.slc Sh.one ds)), ((6 : Nat), AV.dat (D.int IntKind.u64 (IntKind.wrap IntKind.u64 (IntKind.wrap IntKind.u64 (n * (256 : Int)) + IntKind.wrap IntKind.u64 (D.getI (nthD ds (Int.toNat i))))))), ((7 : Nat), AV.dat (D.int IntKind.i64 (IntKind.wrap IntKind.i64 (i + (1 : Int))))), ((16 : Nat), AV.dat (D.int IntKind.i64 i)), ((17 : Nat), AV.dat (D.int IntKind.i64 (IntKind.wrap IntKind.i64 (i + (1 : Int)))))]) (σ) else none) else none) else none) else K (Exit.exit (0 : Nat)) (mkF (27 : Nat) [((6 : Nat), AV.dat (D.int IntKind.u64 n))]) (σ)) := by kernel_rfl

theorem rsnum_loop (ds : List D) (hb : isBytes ds = true) (hl : ds.length ≤ LIM) (σ : Store) : ∀ (j i : Nat) (n : Int) (fr : Frame') (K : Kt), i + j = ds.length →
    cleanF (liveAt Try.f13 0) 0 fr = mkF 27 [(5, .dat (.slc .one ds)), (6, .dat (.int .u64 n)), (7, .dat (.int .i64 (i : Int)))] →
    loopRun E_rsnum Try.f13 0 σ.length (j + 1) fr σ K = K (.exit 0) (mkF 27 [(6, .dat (.int .u64 (numR n (ds.drop i))))]) σ := by
  intro j
  induction j with
  | zero =>
    intro i n fr K hij h1
    rw [loopRun_step h1 (trim_self (Nat.le_refl _)), rsnum_step]
    have c0 : decide ((i : Int) < (ds.length : Int)) = false := by simp; omega
    rw [c0, cond_false, List.drop_eq_nil_of_le (by omega)]
    rfl
  | succ j ih =>
    intro i n fr K hij h1
    rw [loopRun_step h1 (trim_self (Nat.le_refl _)), rsnum_step]
    have hi : i < ds.length := by omega
    obtain ⟨x, hx⟩ := isBytes_mem hb (nthD_mem hi)
    have c0 : decide ((i : Int) < (ds.length : Int)) = true := by simp; omega
    have c1 : decide ((0 : Int) ≤ (i : Int)) = true := by simp
    have c2 : decide (i < ds.length) = true := by simp; omega
    unfold LIM at hl
    have e2 : IntKind.wrap .i64 ((i : Int) + 1) = ((i + 1 : Nat) : Int) := by rw [IntKind.wrap_i64]; omega
    have c3 : okE (.int .u8) (nthD ds i) = true := by rw [hx]; rfl
    rw [c0, c1, Int.toNat_natCast, c2, c3, e2]
    repeat rw [cond_true]
    have := ih (i + 1) (stepR n (nthD ds i).getI) (mkF 27 [(5, .dat (.slc .one ds)), (6, .dat (.int .u64 (stepR n (nthD ds i).getI))), (7, .dat (.int .i64 ((i + 1 : Nat) : Int))), (16, .dat (.int .i64 (i : Int))), (17, .dat (.int .i64 ((i + 1 : Nat) : Int)))]) K (by omega) (by kernel_rfl)
    rw [drop_cons_nth hi, numR]
    exact this

theorem rsnum_loops : ∀ x ∈ fnLoops Try.f13, LoopOk E_rsnum x.1 x.2 := by
  refine loops_one (by kernel_rfl) (loop_ok (L := L_rsnum) (by kernel_rfl) ?_)
  intro fr σ p h K r hK
  unfold L_rsnum at h
  split at h
  · rename_i ds n i g1 g2 g3
    obtain ⟨hc, h'⟩ := T.chk_some h
    simp only [Bool.and_eq_true, decide_eq_true_eq] at hc
    obtain ⟨⟨⟨c0, c2⟩, c3⟩, c4⟩ := hc
    have c0 := Nat.eq_of_beq_eq_true c0
    subst c2
    have hp := T.leaf_some h'
    subst hp
    refine ⟨ds.length + 1, ?_⟩
    have hfr : cleanF (liveAt Try.f13 0) 0 fr = mkF 27 [(5, .dat (.slc .one ds)), (6, .dat (.int .u64 n)), (7, .dat (.int .i64 ((0 : Nat) : Int)))] := by
      rw [clean_mk c0, show AV.dat (.int .i64 ((0 : Nat) : Int)) = fr.getD 7 .undef from g3.symm, ← g1, ← g2]
      kernel_rfl
    exact (rsnum_loop ds c3 c4 σ ds.length 0 n _ K (by omega) (by rw [clean_clean]; exact hfr)).trans hK
  · simp [T.run_fail] at h

theorem Rf.ok_takes {s : Rf} (n : Int) (h : s.ok = true) : isBytes (s.takes n) = true ∧ (s.takes n).length ≤ LIM := by
  obtain ⟨h1, h2, h3, h4⟩ := Rf.ok_spec h
  unfold Rf.takes
  cases s.can n with
  | false => exact ⟨rfl, Nat.zero_le _⟩
  | true => exact ⟨isBytes_take _ (isBytes_drop _ h1), by simp only [cond_true, List.length_take, List.length_drop]; omega⟩
theorem Rf.ok_took {s : Rf} (n : Int) (h : s.ok = true) : (s.took n).ok = true := by
  obtain ⟨h1, h2, h3, h4⟩ := Rf.ok_spec h
  have hp := pos_nonneg n
  unfold Rf.ok
  have e : (s.took n).ds = s.ds := rfl
  have e2 : 0 ≤ (s.took n).at_ ∧ (s.took n).at_ ≤ s.ds.length := by
    unfold Rf.took
    simp only
    cases hc : s.can n with
    | false => exact ⟨h3, h4⟩
    | true =>
      unfold Rf.can at hc
      simp only [Bool.and_eq_true, decide_eq_true_eq] at hc
      simp only [cond_true]
      omega
  rw [e, h1]
  simp [h2, e2.1, e2.2]

def S_rsnum : FunT := fun args σ => match args, σ with
  | [.ptr (.agg [.one, .one, .one]) 0 0 [], .dat (.int .i64 n)], [⟨.agg [.one, .one, .one], false, false, .dat (.agg [.slc .one ds, .int .i64 a, .int .i64 e])⟩] =>
    .chk (Rf.ok ⟨ds, a, e⟩) (.leaf ([.dat (.int .u64 (numR 0 (Rf.takes ⟨ds, a, e⟩ (fitI n))))], [refB (Rf.took ⟨ds, a, e⟩ (fitI n))]))
  | _, _ => .fail

theorem rsnum_run (s : Rf) (n : Int) : runF E_rsnum true Try.f13 [ptrS, .dat (.int .i64 n)] [refB s] =
  (bif Rf.ok s then 
   (bif isBytes (Rf.takes s (fitI n)) && decide (List.length (Rf.takes s (fitI n)) ≤ (35184372088832 : Nat)) then some ([AV.dat (D.int IntKind.u64 (numR (0 : Int) (Rf.takes s (fitI n))))], [{ sh := Sh.agg [Sh.one, Sh.one, Sh.one], dyn := false, frz := false, v := AV.dat (D.agg [D.slc Sh.one (Rf.ds (Rf.took s (fitI n))), D.int IntKind.i64 (Rf.at_ (Rf.took s (fitI n))), D.int IntKind.i64 (Rf.e (Rf.took s (fitI n)))]) }]) else none) else none) := by kernel_rfl

theorem rsnum_ok : FunOk Try.prog 13 (FunT.run S_rsnum) := by
  refine fun_ok (E := E_rsnum) (fz := true) (fn := Try.f13) (envOf_ok progOk (.cons size_ok (.cons rtake_ok (.nil _)))) (by kernel_rfl) (by kernel_rfl) rsnum_loops ?_
  intro args σ r h
  unfold S_rsnum at h
  split at h
  · rename_i n ds a e
    obtain ⟨hc, h'⟩ := T.chk_some h
    rw [← T.leaf_some h']
    refine (rsnum_run ⟨ds, a, e⟩ n).trans ?_
    obtain ⟨b1, b2⟩ := Rf.ok_takes (fitI n) hc
    unfold LIM at b2
    simp only [hc, b1, b2, decide_true, Bool.and_true, cond_true]
    rfl
  · simp [T.run_fail] at h

def Rf.textN (s : Rf) : Int := IntKind.wrap .i64 (numR 0 (s.takes 1))
def Rf.text1 (s : Rf) (lim : Int) : Rf := ⟨(s.took 1).ds, (s.took 1).at_, bif (s.took 1).e == 0 && decide (s.textN > lim) then 2 else (s.took 1).e⟩
def Rf.textS (s : Rf) (lim : Int) : ByteArray := ⟨(byteVs ((s.text1 lim).takes s.textN)).toArray⟩
def Rf.text2 (s : Rf) (lim : Int) : Rf := (s.text1 lim).took s.textN

def S_rstext : FunT := fun args σ => match args, σ with
  | [.ptr (.agg [.one, .one, .one]) 0 0 [], .dat (.int .i64 n)], [⟨.agg [.one, .one, .one], false, false, .dat (.agg [.slc .one ds, .int .i64 a, .int .i64 e])⟩] =>
    .chk (Rf.ok ⟨ds, a, e⟩) (.leaf ([.dat (.str (Rf.textS ⟨ds, a, e⟩ n))], [refB (Rf.text2 ⟨ds, a, e⟩ n)]))
  | _, _ => .fail

theorem Rf.ok_e {s : Rf} (e : Int) (h : s.ok = true) : Rf.ok ⟨s.ds, s.at_, e⟩ = true := h

abbrev E_rstext : Env := envOf tab [(13, S_rsnum), (17, S_rtake)] [] [] []
theorem rstext_run (s : Rf) (n : Int) : runF E_rstext true Try.f15 [ptrS, .dat (.int .i64 n)] [refB s] =
  (bif Rf.ok s then 
   (bif (Rf.e (Rf.took s (1 : Int)) == (0 : Int)) == true then 
    (bif Rf.e (Rf.took s (1 : Int)) == (0 : Int) then 
     (bif decide (IntKind.wrap IntKind.i64 (numR (0 : Int) (Rf.takes s (1 : Int))) > n) then 
      (bif Rf.ok { ds := Rf.ds (Rf.took s (1 : Int)), at_ := Rf.at_ (Rf.took s (1 : Int)), e := (2 : Int) } then some ([AV.dat (D.str { data := { toList := [] } })], [{ sh := Sh.agg [Sh.one, Sh.one, Sh.one], dyn := false, frz := false, v := AV.dat (D.agg [D.slc Sh.one (Rf.ds (Rf.took { ds := Rf.ds (Rf.took s (1 : Int)), at_ := Rf.at_ (Rf.took s (1 : Int)), e := (2 : Int) } (IntKind.wrap IntKind.i64 (numR (0 : Int) (Rf.takes s (1 : Int)))))), D.int IntKind.i64 (Rf.at_ (Rf.took { ds := Rf.ds (Rf.took s (1 : Int)), at_ := Rf.at_ (Rf.took s (1 : Int)), e := (2 : Int) } (IntKind.wrap IntKind.i64 (numR (0 : Int) (Rf.takes s (1 : Int)))))), D.int IntKind.i64 (Rf.e (Rf.took { ds := Rf.ds (Rf.took s (1 : Int)), at_ := Rf.at_ (Rf.took s (1 : Int)), e := (2 : Int) } (IntKind.wrap IntKind.i64 (numR (0 : Int) (Rf.takes s (1 : Int))))))]) }]) else none) else 
      (bif Rf.ok (Rf.took s (1 : Int)) then 
       (bif isBytes (Rf.takes (Rf.took s (1 : Int)) (IntKind.wrap IntKind.i64 (numR (0 : Int) (Rf.takes s (1 : Int))))) then some ([AV.dat (D.str { data := { toList := byteVs (Rf.takes (Rf.took s (1 : Int)) (IntKind.wrap IntKind.i64 (numR (0 : Int) (Rf.takes s (1 : Int))))) } })], [{ sh := Sh.agg [Sh.one, Sh.one, Sh.one], dyn := false, frz := false, v := AV.dat (D.agg [D.slc Sh.one (Rf.ds (Rf.took (Rf.took s (1 : Int)) (IntKind.wrap IntKind.i64 (numR (0 : Int) (Rf.takes s (1 : Int)))))), D.int IntKind.i64 (Rf.at_ (Rf.took (Rf.took s (1 : Int)) (IntKind.wrap IntKind.i64 (numR (0 : Int) (Rf.takes s (1 : Int)))))), D.int IntKind.i64 (Rf.e (Rf.took (Rf.took s (1 : Int)) (IntKind.wrap IntKind.i64 (numR (0 : Int) (Rf.takes s (1 : Int))))))]) }]) else none) else none)) else 
     (bif Rf.ok (Rf.took s (1 : Int)) then 
      (bif isBytes (Rf.takes (Rf.took s (1 : Int)) (IntKind.wrap IntKind.i64 (numR (0 : Int) (Rf.takes s (1 : Int))))) then some ([AV.dat (D.str { data := { toList := byteVs (Rf.takes (Rf.took s (1 : Int)) (IntKind.wrap IntKind.i64 (numR (0 : Int) (Rf.takes s (1 : Int))))) } })], [{ sh := Sh.agg [Sh.one, Sh.one, Sh.one], dyn := false, frz := false, v := AV.dat (D.agg [D.slc Sh.one (Rf.ds (Rf.took (Rf.took s (1 : Int)) (IntKind.wrap IntKind.i64 (numR (0 : Int) (Rf.takes s (1 : Int)))))), D.int IntKind.i64 (Rf.at_ (Rf.took (Rf.took s (1 : Int)) (IntKind.wrap IntKind.i64 (numR (0 : Int) (Rf.takes s (1 : Int)))))), D.int IntKind.i64 (Rf.e (Rf.took (Rf.took s (1 : Int)) (IntKind.wrap IntKind.i64 (numR (0 : Int) (Rf.takes s (1 : Int))))))]) }]) else none) else none)) else 
    (bif Rf.e (Rf.took s (1 : Int)) == (0 : Int) then none else 
     (bif Rf.ok (Rf.took s (1 : Int)) then 
      (bif isBytes (Rf.takes (Rf.took s (1 : Int)) (IntKind.wrap IntKind.i64 (numR (0 : Int) (Rf.takes s (1 : Int))))) then some ([AV.dat (D.str { data := { toList := byteVs (Rf.takes (Rf.took s (1 : Int)) (IntKind.wrap IntKind.i64 (numR (0 : Int) (Rf.takes s (1 : Int))))) } })], [{ sh := Sh.agg [Sh.one, Sh.one, Sh.one], dyn := false, frz := false, v := AV.dat (D.agg [D.slc Sh.one (Rf.ds (Rf.took (Rf.took s (1 : Int)) (IntKind.wrap IntKind.i64 (numR (0 : Int) (Rf.takes s (1 : Int)))))), D.int IntKind.i64 (Rf.at_ (Rf.took (Rf.took s (1 : Int)) (IntKind.wrap IntKind.i64 (numR (0 : Int) (Rf.takes s (1 : Int)))))), D.int IntKind.i64 (Rf.e (Rf.took (Rf.took s (1 : Int)) (IntKind.wrap IntKind.i64 (numR (0 : Int) (Rf.takes s (1 : Int))))))]) }]) else none) else none))) else none) := by kernel_rfl

theorem rstext_eq (s : Rf) (n : Int) (hok : s.ok = true) : runF E_rstext true Try.f15 [ptrS, .dat (.int .i64 n)] [refB s] = some ([.dat (.str (s.textS n))], [refB (s.text2 n)]) := by
  rw [rstext_run]
  have h1 := Rf.ok_took 1 hok
  have h2 : Rf.ok { ds := Rf.ds (Rf.took s 1), at_ := Rf.at_ (Rf.took s 1), e := 2 } = true := Rf.ok_e 2 h1
  obtain ⟨b1, _⟩ := Rf.ok_takes s.textN h1
  have hN : IntKind.wrap .i64 (numR 0 (s.takes 1)) = s.textN := rfl
  rw [hN, hok, h1, h2, b1]
  unfold Rf.textS Rf.text2 Rf.text1
  cases he : ((s.took 1).e == 0) with
  | false => rfl
  | true => cases hd : decide (s.textN > n) <;> rfl

theorem rstext_ok : FunOk Try.prog 15 (FunT.run S_rstext) := by
  refine fun_ok (E := E_rstext) (fz := true) (fn := Try.f15) (envOf_ok progOk (.cons rsnum_ok (.cons rtake_ok (.nil _)))) (by kernel_rfl) (by kernel_rfl) (loops_none (by kernel_rfl)) ?_
  intro args σ r h
  unfold S_rstext at h
  split at h
  · rename_i n ds a e
    obtain ⟨hc, h'⟩ := T.chk_some h
    rw [← T.leaf_some h']
    exact rstext_eq ⟨ds, a, e⟩ n hc
  · simp [T.run_fail] at h

end Go.Proofs.Ytnailhdfopoibaa
