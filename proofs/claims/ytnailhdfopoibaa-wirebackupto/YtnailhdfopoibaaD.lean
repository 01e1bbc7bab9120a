/- Seat 02: numbers and texts out of a scan. -/
import Derived.Test.YtnailhdfopoibaaC
namespace Go.Proofs.Ytnailhdfopoibaa
open Go.AX
set_option maxRecDepth 100000

/-! Num of a scan -/
def stepU (n x : Int) : Int := IntKind.wrap .u64 ((BitVec.ofInt 64 (IntKind.wrap .u64 (n * 256)) ||| BitVec.ofInt 64 (IntKind.wrap .u64 x)).toNat : Int)
def numU (n : Int) : List D → Int
  | [] => n
  | d :: ds => numU (stepU n d.getI) ds

def L_snum : Frame' → Store → T (Exit × Frame' × Store) := fun fr σ => match fr.getD 5 .undef, fr.getD 11 .undef, fr.getD 12 .undef, fr.getD 13 .undef with
  | .dat (.int .u64 n), .dat (.slc .one ds), .dat (.int .i64 m), .dat (.int .i64 i) =>
    .chk (Nat.beq fr.length 24 && decide (m = ds.length) && decide (i = 0) && isBytes ds && decide (ds.length ≤ LIM)) (.leaf (.exit 0, mkF 24 [(5, .dat (.int .u64 (numU n ds)))], σ))
  | _, _, _, _ => .fail

abbrev E_snum : Env := envOf tab [(26, S_fit), (16, S_take)] [] [(3, L_snum)] []

theorem snum_step (n i : Int) (ds : List D) (σ : Store) (b : Nat) (K : Kt) : oneRound E_snum Try.f12 0 b (mkF 24 [(5, .dat (.int .u64 n)), (11, .dat (.slc .one ds)), (12, .dat (.int .i64 ds.length)), (13, .dat (.int .i64 i))]) σ K =
  (bif decide (i < (↑(List.length ds) : Int)) then 
   (bif decide ((0 : Int) ≤ i) then 
    (bif decide (Int.toNat i < List.length ds) then 
     (bif okE (Ek.int IntKind.u8) (nthD ds (Int.toNat i)) then K (Exit.normal) (mkF (24 : Nat) [((5 : Nat), AV.dat (D.int IntKind.u64 (IntKind.wrap IntKind.u64 (↑(BitVec.toNat (BitVec.ofInt (64 : Nat) (IntKind.wrap IntKind.u64 (n * (256 : Int))) ||| BitVec.ofInt (64 : Nat) (IntKind.wrap IntKind.u64 (D.getI (nthD ds (Int.toNat i)))))) : Int)))), ((11 : Nat), AV.dat (D.slc Sh.one ds)), ((12 : Nat), AV.dat (D.int IntKind.i64 (↑(List.length ds) : Int))), ((13 : Nat), AV.dat (D.int IntKind.i64 (IntKind.wrap IntKind.i64 (i + (1 : Int))))), ((14 : Nat), AV.dat (D.bool (decide (i < (↑(List.length ds) : Int))))), ((22 : Nat), AV.dat (D.int IntKind.i64 (IntKind.wrap IntKind.i64 (i + (1 : Int)))))]) (σ) else none) else none) else none) else K (Exit.exit (0 : Nat)) (mkF (24 : Nat) [((5 : Nat), AV.dat (D.int IntKind.u64 n))]) (σ)) := by kernel_rfl

theorem snum_loop (ds : List D) (hb : isBytes ds = true) (hl : ds.length ≤ LIM) (σ : Store) : ∀ (j i : Nat) (n : Int) (fr : Frame') (K : Kt), i + j = ds.length →
    cleanF (liveAt Try.f12 0) 0 fr = mkF 24 [(5, .dat (.int .u64 n)), (11, .dat (.slc .one ds)), (12, .dat (.int .i64 ds.length)), (13, .dat (.int .i64 (i : Int)))] →
    loopRun E_snum Try.f12 0 σ.length (j + 1) fr σ K = K (.exit 0) (mkF 24 [(5, .dat (.int .u64 (numU n (ds.drop i))))]) σ := by
  intro j
  induction j with
  | zero =>
    intro i n fr K hij h1
    rw [loopRun_step h1 (trim_self (Nat.le_refl _)), snum_step]
    have c0 : decide ((i : Int) < (ds.length : Int)) = false := by simp; omega
    rw [c0, cond_false, List.drop_eq_nil_of_le (by omega)]
    rfl
  | succ j ih =>
    intro i n fr K hij h1
    rw [loopRun_step h1 (trim_self (Nat.le_refl _)), snum_step]
    have hi : i < ds.length := by omega
    obtain ⟨x, hx⟩ := isBytes_mem hb (nthD_mem hi)
    have c0 : decide ((i : Int) < (ds.length : Int)) = true := by simp; omega
    have c1 : decide ((0 : Int) ≤ (i : Int)) = true := by simp
    have c2 : decide (i < ds.length) = true := by simp; omega
    unfold LIM at hl
    have e2 : IntKind.wrap .i64 ((i : Int) + 1) = ((i + 1 : Nat) : Int) := by rw [IntKind.wrap_i64]; omega
    have c3 : okE (.int .u8) (nthD ds i) = true := by rw [hx]; rfl
    rw [c0, c1, Int.toNat_natCast, c2, c3, e2]
    simp only [cond_true]
    have := ih (i + 1) (stepU n (nthD ds i).getI) (mkF 24 [(5, .dat (.int .u64 (stepU n (nthD ds i).getI))), (11, .dat (.slc .one ds)), (12, .dat (.int .i64 ds.length)), (13, .dat (.int .i64 ((i + 1 : Nat) : Int))), (14, .dat (.bool true)), (22, .dat (.int .i64 ((i + 1 : Nat) : Int)))]) K (by omega) (by kernel_rfl)
    rw [drop_cons_nth hi, numU]
    exact this

theorem snum_loops : ∀ x ∈ fnLoops Try.f12, LoopOk E_snum x.1 x.2 := by
  refine loops_one (by kernel_rfl) (loop_ok (L := L_snum) (by kernel_rfl) ?_)
  intro fr σ p h K r hK
  unfold L_snum at h
  split at h
  · rename_i n ds m i g1 g2 g3 g4
    obtain ⟨hc, h'⟩ := T.chk_some h
    simp only [Bool.and_eq_true, decide_eq_true_eq] at hc
    obtain ⟨⟨⟨⟨c0, c1⟩, c2⟩, c3⟩, c4⟩ := hc
    have c0 := Nat.eq_of_beq_eq_true c0
    subst c1 c2
    have hp := T.leaf_some h'
    subst hp
    refine ⟨ds.length + 1, ?_⟩
    have hfr : cleanF (liveAt Try.f12 0) 0 fr = mkF 24 [(5, .dat (.int .u64 n)), (11, .dat (.slc .one ds)), (12, .dat (.int .i64 ds.length)), (13, .dat (.int .i64 ((0 : Nat) : Int)))] := by
      rw [clean_mk c0, show AV.dat (.int .i64 ((0 : Nat) : Int)) = fr.getD 13 .undef from g4.symm, ← g1, ← g2, ← g3]
      kernel_rfl
    exact (snum_loop ds c3 c4 σ ds.length 0 n _ K (by omega) (by rw [clean_clean]; exact hfr)).trans hK
  · simp [T.run_fail] at h

def S_snum : FunT := fun args σ => match args, σ with
  | [.ptr (.agg [.one, .one, .one]) 0 0 [], .dat (.int .i64 n)], [⟨.agg [.one, .one, .one], false, false, .dat (.agg [.slc .one ds, .int .i64 f, .bool b])⟩] =>
    .chk (isBytes ds && decide (ds.length ≤ LIM)) (.leaf ([.dat (.int .u64 (numU 0 (Sc.takes ⟨ds, f, b⟩ (fitI n))))], [scanB (Sc.took ⟨ds, f, b⟩ (fitI n))]))
  | [.dat .nilp, .dat (.int .i64 _)], [] => .leaf ([.dat (.int .u64 0)], [])
  | _, _ => .fail

theorem snum_run (s : Sc) (n : Int) : runF E_snum true Try.f12 [ptrS, .dat (.int .i64 n)] [scanB s] =
  (bif fits Sh.one (Sc.ds s) && decide (List.length (Sc.ds s) ≤ (35184372088832 : Nat)) then 
   (bif decide ((↑(List.length (Sc.takes s (fitI n))) : Int) = (↑(List.length (Sc.takes s (fitI n))) : Int)) && true && isBytes (Sc.takes s (fitI n)) && decide (List.length (Sc.takes s (fitI n)) ≤ (35184372088832 : Nat)) then some ([AV.dat (D.int IntKind.u64 (numU (0 : Int) (Sc.takes s (fitI n))))], [{ sh := Sh.agg [Sh.one, Sh.one, Sh.one], dyn := false, frz := false, v := AV.dat (D.agg [D.slc Sh.one (Sc.ds (Sc.took s (fitI n))), D.int IntKind.i64 (Sc.f (Sc.took s (fitI n))), D.bool (Sc.b (Sc.took s (fitI n)))]) }]) else none) else none) := by kernel_rfl
theorem snum_nil (n : Int) : runF E_snum true Try.f12 [.dat .nilp, .dat (.int .i64 n)] [] =some ([AV.dat (D.int IntKind.u64 (0 : Int))], []) := by kernel_rfl

theorem isBytes_fits {ds : List D} (h : isBytes ds = true) : fits .one ds = true := by
  rw [fits_one_iff]
  intro d hd
  obtain ⟨n, rfl⟩ := isBytes_mem h hd
  rfl
theorem isBytes_take {ds : List D} (n : Nat) (h : isBytes ds = true) : isBytes (ds.take n) = true := by
  unfold isBytes at h ⊢
  rw [List.all_eq_true] at h ⊢
  exact fun d hd => h d (List.mem_of_mem_take hd)
theorem isBytes_drop {ds : List D} (n : Nat) (h : isBytes ds = true) : isBytes (ds.drop n) = true := by
  unfold isBytes at h ⊢
  rw [List.all_eq_true] at h ⊢
  exact fun d hd => h d (List.mem_of_mem_drop hd)

/-- The bytes of a scan are bytes, and not too many. -/
def Sc.ok (s : Sc) : Bool := isBytes s.ds && decide (s.ds.length ≤ LIM)
theorem Sc.ok_takes {s : Sc} (n : Int) (h : s.ok = true) : isBytes (s.takes n) = true ∧ (s.takes n).length ≤ LIM := by
  unfold Sc.ok at h
  simp only [Bool.and_eq_true, decide_eq_true_eq] at h
  unfold Sc.takes
  cases (s.short n).fine with
  | false => exact ⟨rfl, Nat.zero_le _⟩
  | true => exact ⟨isBytes_take _ h.1, by simp only [cond_true, List.length_take]; omega⟩
theorem Sc.ok_rule {s : Sc} (b : Bool) (e : Int) (h : s.ok = true) : (s.rule b e).ok = true := h
theorem Sc.ok_took {s : Sc} (n : Int) (h : s.ok = true) : (s.took n).ok = true := by
  unfold Sc.took
  cases (s.short n).fine with
  | false => exact h
  | true =>
    unfold Sc.ok at h ⊢
    simp only [Bool.and_eq_true, decide_eq_true_eq, cond_true] at h ⊢
    exact ⟨isBytes_drop _ h.1, by rw [List.length_drop]; omega⟩
theorem Sc.ok_spec {s : Sc} (h : s.ok = true) : isBytes s.ds = true ∧ s.ds.length ≤ LIM := by
  unfold Sc.ok at h
  simpa only [Bool.and_eq_true, decide_eq_true_eq] using h

theorem snum_ok : FunOk Try.prog 12 (FunT.run S_snum) := by
  refine fun_ok (E := E_snum) (fz := true) (fn := Try.f12) (envOf_ok progOk (.cons fit_ok (.cons take_ok (.nil _)))) (by kernel_rfl) (by kernel_rfl) snum_loops ?_
  intro args σ r h
  unfold S_snum at h
  split at h
  · rename_i n ds f b
    obtain ⟨hc, h'⟩ := T.chk_some h
    rw [← T.leaf_some h']
    refine (snum_run ⟨ds, f, b⟩ n).trans ?_
    have hok : Sc.ok ⟨ds, f, b⟩ = true := hc
    obtain ⟨a1, a2⟩ := Sc.ok_spec hok
    obtain ⟨b1, b2⟩ := Sc.ok_takes (fitI n) hok
    unfold LIM at a2 b2
    simp only [isBytes_fits a1, a2, b1, b2, decide_true, Bool.and_true, cond_true]
    rfl
  · rw [← T.leaf_some h, snum_nil]
  · simp [T.run_fail] at h

/-! Text of a scan -/
abbrev E_stext : Env := envOf tab [(12, S_snum), (18, S_rule), (16, S_take)] [] [] []
def Sc.textN (s : Sc) : Int := IntKind.wrap .i64 (numU 0 (s.takes 1))
def Sc.text1 (s : Sc) (lim : Int) : Sc := (s.took 1).rule (decide (s.textN ≤ lim)) 2
def Sc.textS (s : Sc) (lim : Int) : ByteArray := ⟨(byteVs ((s.text1 lim).takes s.textN)).toArray⟩
def Sc.text2 (s : Sc) (lim : Int) : Sc := (s.text1 lim).took s.textN

def S_stext : FunT := fun args σ => match args, σ with
  | [.ptr (.agg [.one, .one, .one]) 0 0 [], .dat (.int .i64 n)], [⟨.agg [.one, .one, .one], false, false, .dat (.agg [.slc .one ds, .int .i64 f, .bool b])⟩] =>
    .chk (isBytes ds && decide (ds.length ≤ LIM)) (.leaf ([.dat (.str (Sc.textS ⟨ds, f, b⟩ n))], [scanB (Sc.text2 ⟨ds, f, b⟩ n)]))
  | _, _ => .fail

theorem stext_run (s : Sc) (n : Int) : runF E_stext true Try.f14 [ptrS, .dat (.int .i64 n)] [scanB s] =
  (bif isBytes (Sc.ds s) && decide (List.length (Sc.ds s) ≤ (35184372088832 : Nat)) then 
   (bif fits Sh.one (Sc.ds (Sc.rule (Sc.took s (1 : Int)) (decide (IntKind.wrap IntKind.i64 (numU (0 : Int) (Sc.takes s (1 : Int))) ≤ n)) (2 : Int))) && decide (List.length (Sc.ds (Sc.rule (Sc.took s (1 : Int)) (decide (IntKind.wrap IntKind.i64 (numU (0 : Int) (Sc.takes s (1 : Int))) ≤ n)) (2 : Int))) ≤ (35184372088832 : Nat)) then 
    (bif isBytes (Sc.takes (Sc.rule (Sc.took s (1 : Int)) (decide (IntKind.wrap IntKind.i64 (numU (0 : Int) (Sc.takes s (1 : Int))) ≤ n)) (2 : Int)) (IntKind.wrap IntKind.i64 (numU (0 : Int) (Sc.takes s (1 : Int))))) then some ([AV.dat (D.str { data := { toList := byteVs (Sc.takes (Sc.rule (Sc.took s (1 : Int)) (decide (IntKind.wrap IntKind.i64 (numU (0 : Int) (Sc.takes s (1 : Int))) ≤ n)) (2 : Int)) (IntKind.wrap IntKind.i64 (numU (0 : Int) (Sc.takes s (1 : Int))))) } })], [{ sh := Sh.agg [Sh.one, Sh.one, Sh.one], dyn := false, frz := false, v := AV.dat (D.agg [D.slc Sh.one (Sc.ds (Sc.took (Sc.rule (Sc.took s (1 : Int)) (decide (IntKind.wrap IntKind.i64 (numU (0 : Int) (Sc.takes s (1 : Int))) ≤ n)) (2 : Int)) (IntKind.wrap IntKind.i64 (numU (0 : Int) (Sc.takes s (1 : Int)))))), D.int IntKind.i64 (Sc.f (Sc.took (Sc.rule (Sc.took s (1 : Int)) (decide (IntKind.wrap IntKind.i64 (numU (0 : Int) (Sc.takes s (1 : Int))) ≤ n)) (2 : Int)) (IntKind.wrap IntKind.i64 (numU (0 : Int) (Sc.takes s (1 : Int)))))), D.bool (Sc.b (Sc.took (Sc.rule (Sc.took s (1 : Int)) (decide (IntKind.wrap IntKind.i64 (numU (0 : Int) (Sc.takes s (1 : Int))) ≤ n)) (2 : Int)) (IntKind.wrap IntKind.i64 (numU (0 : Int) (Sc.takes s (1 : Int))))))]) }]) else none) else none) else none) := by kernel_rfl

theorem stext_ok : FunOk Try.prog 14 (FunT.run S_stext) := by
  refine fun_ok (E := E_stext) (fz := true) (fn := Try.f14) (envOf_ok progOk (.cons snum_ok (.cons rule_ok (.cons take_ok (.nil _))))) (by kernel_rfl) (by kernel_rfl) (loops_none (by kernel_rfl)) ?_
  intro args σ r h
  unfold S_stext at h
  split at h
  · rename_i n ds f b
    obtain ⟨hc, h'⟩ := T.chk_some h
    rw [← T.leaf_some h']
    have hok : Sc.ok ⟨ds, f, b⟩ = true := hc
    refine (stext_run ⟨ds, f, b⟩ n).trans ?_
    have hok1 := Sc.ok_rule (decide (Sc.textN ⟨ds, f, b⟩ ≤ n)) 2 (Sc.ok_took 1 hok)
    obtain ⟨a1, a2⟩ := Sc.ok_spec hok
    obtain ⟨b1, b2⟩ := Sc.ok_spec hok1
    obtain ⟨c1, c2⟩ := Sc.ok_takes (Sc.textN ⟨ds, f, b⟩) hok1
    unfold LIM at a2 b2 c2
    unfold Sc.textN at b1 b2 c1 c2
    simp only [isBytes_fits b1, a1, a2, b2, c1, decide_true, Bool.and_true, cond_true]
    rfl
  · simp [T.run_fail] at h

end Go.Proofs.Ytnailhdfopoibaa
