/- Seat 02: own, fit, size, Num. -/
import Derived.Test.YtnailhdfopoibaaTab
import Derived.Test.YtnailhdfopoibaaAx28
namespace Go.Proofs.Ytnailhdfopoibaa
open Go.AX
set_option maxRecDepth 100000

theorem progOk : ProgOk Try.prog tab := ⟨tab_ok, by kernel_rfl⟩

/-! own -/
def S_own : FunT := fun args σ => match args, σ with
  | [.dat (.slc .one ds)], [] => .leaf ([.fslc .one ds], [])
  | _, _ => .fail

theorem own_run (ds : List D) : runF (envOf tab [] [] [] []) false Try.f25 [.dat (.slc .one ds)] [] =
  (bif decide ((↑(List.length ds) : Int) = (↑(List.length ds) : Int)) then 
   (bif decide (Int.toNat (↑(List.length ds) : Int) ≤ List.length ds) then some ([AV.fslc Sh.one (seg ds (0 : Nat) (Int.toNat (↑(List.length ds) : Int) - (0 : Nat)))], []) else none) else none) := by kernel_rfl

theorem own_ok : FunOk Try.prog 25 (FunT.run S_own) := by
  refine fun_ok (E := envOf tab [] [] [] []) (fz := false) (fn := Try.f25) (envOf_ok progOk (SpecsOk.nil _)) (by kernel_rfl) (by kernel_rfl) (loops_none (by kernel_rfl)) ?_
  intro args σ r h
  unfold S_own at h
  split at h
  · rw [← T.leaf_some h, own_run]
    simp [seg_eq]
  · simp [T.run_fail] at h

/-! fit -/
def fitI (n : Int) : Int := if 8 < (if 1 > n then 1 else n) then 8 else if 1 > n then 1 else n
def S_fit : FunT := fun args σ => match args, σ with
  | [.dat (.int .i64 n)], [] => .leaf ([.dat (.int .i64 (fitI n))], [])
  | _, _ => .fail

theorem fit_ok : FunOk Try.prog 26 (FunT.run S_fit) := by
  refine fun_ok (E := envOf tab [] [] [] []) (fz := true) (fn := Try.f26) (envOf_ok progOk (SpecsOk.nil _)) (by kernel_rfl) (by kernel_rfl) (loops_none (by kernel_rfl)) ?_
  intro args σ r h
  unfold S_fit at h
  split at h
  · rename_i n
    rw [← T.leaf_some h]
    have e : runF (envOf tab [] [] [] []) true Try.f26 [.dat (.int .i64 n)] [] = some ([.dat (.int .i64 (fitI n))], []) := by kernel_rfl
    exact e
  · simp [T.run_fail] at h

/-! size -/
def S_size : FunT := fun args σ => match args, σ with
  | [.dat (.int .i64 n)], [] => .leaf ([.dat (.int .i64 (fitI n))], [])
  | _, _ => .fail

theorem size_run (n : Int) : runF (envOf tab [] [] [] []) true Try.f27 [.dat (.int .i64 n)] [] =
  (bif decide (n < (1 : Int)) then some ([AV.dat (D.int IntKind.i64 (1 : Int))], []) else 
   (bif decide (n > (8 : Int)) then some ([AV.dat (D.int IntKind.i64 (8 : Int))], []) else some ([AV.dat (D.int IntKind.i64 n)], []))) := by kernel_rfl

theorem size_ok : FunOk Try.prog 27 (FunT.run S_size) := by
  refine fun_ok (E := envOf tab [] [] [] []) (fz := true) (fn := Try.f27) (envOf_ok progOk (SpecsOk.nil _)) (by kernel_rfl) (by kernel_rfl) (loops_none (by kernel_rfl)) ?_
  intro args σ r h
  unfold S_size at h
  split at h
  · rename_i n
    rw [← T.leaf_some h, size_run]
    unfold fitI
    by_cases h1 : n < 1
    · simp [h1]
    · by_cases h2 : n > 8
      · have : ¬ (1 > n) := by omega
        simp [h1, h2]
      · have : ¬ (1 > n) := by omega
        have h3 : ¬ (8 < n) := by omega
        simp [h1, h2]
  · simp [T.run_fail] at h

theorem fitI_in (n : Int) : 1 ≤ fitI n ∧ fitI n ≤ 8 := by unfold fitI; omega

/-! Num -/
def byteAt (n : Int) (i : Nat) : D := .int .u8 (n / 2 ^ (8 * i) % 256)
/-- The last k bytes of a number, the greatest one first. -/
def numB (n : Int) : Nat → List D
  | 0 => []
  | k + 1 => byteAt n k :: numB n k

theorem numB_length (n : Int) : ∀ k, (numB n k).length = k
  | 0 => rfl
  | k + 1 => by simp [numB, numB_length n k]

def slcOf (ds : List D) : AV := .sref .one 0 ds.length [] 0 ds.length

def L_num : Frame' → Store → T (Exit × Frame' × Store) := fun fr σ => match fr.getD 1 .undef, fr.getD 7 .undef, fr.getD 8 .undef, σ with
  | .dat (.int .u64 n), .sref .one 0 m [] 0 m', .dat (.int .i64 i), [⟨.arr .one 0, true, false, .dat (.arr .one ds)⟩] =>
    .chk (Nat.beq fr.length 29 && Nat.beq m ds.length && Nat.beq m' ds.length && decide (0 ≤ n) && decide (-1 ≤ i) && decide (i ≤ 7) && decide (ds.length + 8 ≤ LIM))
      (.leaf (.exit 0, mkF 29 [(7, slcOf (ds ++ numB n (i + 1).toNat))], [mkDyn .one (ds ++ numB n (i + 1).toNat)]))
  | _, _, _, _ => .fail

abbrev E_num : Env := envOf tab [(25, S_own), (26, S_fit)] [] [(3, L_num)] []

theorem num_step (n i : Int) (ds : List D) (K : Kt) : oneRound E_num Try.f6 0 1 (mkF 29 [(1, .dat (.int .u64 n)), (7, slcOf ds), (8, .dat (.int .i64 i))]) [mkDyn .one ds] K =
  (bif decide (i ≥ (0 : Int)) then 
   (bif decide ((0 : Int) ≤ IntKind.wrap IntKind.i64 ((8 : Int) * i)) then 
    (bif Nat.beq (List.length ds) (List.length ds) && true && true && true && true && Nat.beq (List.length ds) (List.length ds) && true && true && decide ((List.length ds + (1 : Nat)) * (1 : Nat) ≤ (35184372088832 : Nat)) then K (Exit.normal) (mkF (29 : Nat) [((1 : Nat), AV.dat (D.int IntKind.u64 n)), ((7 : Nat), AV.sref Sh.one (0 : Nat) (List.length ds + (1 : Nat)) [] (0 : Nat) (List.length ds + (1 : Nat))), ((8 : Nat), AV.dat (D.int IntKind.i64 (IntKind.wrap IntKind.i64 (i - (1 : Int))))), ((18 : Nat), AV.dat (D.int IntKind.i64 i)), ((19 : Nat), AV.dat (D.int IntKind.i64 (IntKind.wrap IntKind.i64 (i - (1 : Int)))))]) ([{ sh := Sh.arr Sh.one (0 : Nat), dyn := true, frz := false, v := AV.dat (D.arr Sh.one (ds ++ [D.int IntKind.u8 (IntKind.wrap IntKind.u8 (Int.fdiv n ((2 : Int) ^ min (Int.toNat (IntKind.wrap IntKind.i64 ((8 : Int) * i))) (64 : Nat))))])) }, { sh := Sh.arr Sh.one (0 : Nat), dyn := true, frz := false, v := AV.dat (D.arr Sh.one [D.int IntKind.u8 (IntKind.wrap IntKind.u8 (Int.fdiv n ((2 : Int) ^ min (Int.toNat (IntKind.wrap IntKind.i64 ((8 : Int) * i))) (64 : Nat))))]) }]) else none) else none) else K (Exit.exit (0 : Nat)) (mkF (29 : Nat) [((7 : Nat), AV.sref Sh.one (0 : Nat) (List.length ds) [] (0 : Nat) (List.length ds))]) ([{ sh := Sh.arr Sh.one (0 : Nat), dyn := true, frz := false, v := AV.dat (D.arr Sh.one ds) }])) := by kernel_rfl

theorem num_loop (n : Int) (_ : 0 ≤ n) : ∀ (j : Nat) (ds : List D) (fr : Frame') (σ : Store) (K : Kt), cleanF (liveAt Try.f6 0) 0 fr = mkF 29 [(1, .dat (.int .u64 n)), (7, slcOf ds), (8, .dat (.int .i64 (j - 1 : Int)))] →
    trim 1 (mkF 29 [(1, .dat (.int .u64 n)), (7, slcOf ds), (8, .dat (.int .i64 (j - 1 : Int)))]) σ = [mkDyn .one ds] → j ≤ 8 → ds.length + j ≤ LIM →
    loopRun E_num Try.f6 0 1 (j + 1) fr σ K = K (.exit 0) (mkF 29 [(7, slcOf (ds ++ numB n j))]) [mkDyn .one (ds ++ numB n j)] := by
  intro j
  induction j with
  | zero =>
    intro ds fr σ K h1 h2 h3 h4
    rw [loopRun_step h1 h2, num_step]
    have c0 : decide ((((0 : Nat) : Int) - 1) ≥ 0) = false := by decide
    rw [c0, cond_false, show numB n 0 = [] from rfl, List.append_nil]
    rfl
  | succ j ih =>
    intro ds fr σ K h1 h2 h3 h4
    have e0 : ((j + 1 : Nat) : Int) - 1 = j := by omega
    rw [e0] at h1 h2
    have e1 : IntKind.wrap .i64 (8 * (j : Int)) = 8 * j := by rw [IntKind.wrap_i64]; omega
    have e2 : IntKind.wrap .i64 ((j : Int) - 1) = j - 1 := by rw [IntKind.wrap_i64]; omega
    have e3 : (8 * (j : Int)).toNat = 8 * j := by omega
    have e4 : min (8 * j) 64 = 8 * j := by omega
    have e5 : D.int .u8 (IntKind.wrap .u8 (Int.fdiv n (2 ^ (8 * j)))) = byteAt n j := by
      unfold byteAt
      rw [IntKind.wrap_u8, Int.fdiv_eq_ediv_of_nonneg _ (Int.pow_nonneg (by omega))]
    have e6 : (ds.length + 1) * 1 ≤ 35184372088832 := by unfold LIM at h4; omega
    rw [loopRun_step h1 h2, num_step, e1, e2, e3, e4, e5]
    have c0 : decide ((j : Int) ≥ 0) = true := by simp
    have c1 : decide (0 ≤ 8 * (j : Int)) = true := by simp; omega
    rw [c0, c1]
    simp only [Nat.beq_refl, e6, decide_true, Bool.and_true, cond_true]
    have hl : slcOf (ds ++ [byteAt n j]) = AV.sref Sh.one 0 (ds.length + 1) [] 0 (ds.length + 1) := by simp [slcOf]
    have := ih (ds ++ [byteAt n j]) (mkF 29 [(1, .dat (.int .u64 n)), (7, slcOf (ds ++ [byteAt n j])), (8, .dat (.int .i64 ((j : Int) - 1))), (18, .dat (.int .i64 j)), (19, .dat (.int .i64 ((j : Int) - 1)))])
      [mkDyn .one (ds ++ [byteAt n j]), mkDyn .one [byteAt n j]] K (by kernel_rfl) (by kernel_rfl) (by omega) (by simp; omega)
    rw [hl] at this
    rw [show numB n (j + 1) = byteAt n j :: numB n j from rfl]
    simp only [List.append_assoc, List.singleton_append] at this
    exact this

theorem num_loops : ∀ x ∈ fnLoops Try.f6, LoopOk E_num x.1 x.2 := by
  refine loops_one (by kernel_rfl) (loop_ok (L := L_num) (by kernel_rfl) ?_)
  intro fr σ p h K r hK
  unfold L_num at h
  split at h
  · rename_i n m m' i ds g1 g2 g3
    obtain ⟨hc, h'⟩ := T.chk_some h
    simp only [Bool.and_eq_true, decide_eq_true_eq] at hc
    obtain ⟨⟨⟨⟨⟨⟨c0, c1⟩, c2⟩, c3⟩, c4⟩, c5⟩, c6⟩ := hc
    have c0 := Nat.eq_of_beq_eq_true c0
    have c1 := Nat.eq_of_beq_eq_true c1
    have c2 := Nat.eq_of_beq_eq_true c2
    subst c1 c2
    have hp := T.leaf_some h'
    subst hp
    refine ⟨(i + 1).toNat + 1, ?_⟩
    have e : (((i + 1).toNat : Nat) : Int) - 1 = i := by omega
    have hfr : cleanF (liveAt Try.f6 0) 0 fr = mkF 29 [(1, .dat (.int .u64 n)), (7, slcOf ds), (8, .dat (.int .i64 i))] := by
      rw [clean_mk c0, show slcOf ds = fr.getD 7 .undef from g2.symm, ← g1, ← g3]
      kernel_rfl
    rw [← e] at hfr
    exact (num_loop n c3 (i + 1).toNat ds _ _ K (by rw [clean_clean]; exact hfr) (by kernel_rfl) (by omega) (by omega)).trans hK
  · simp [T.run_fail] at h

def S_num : FunT := fun args σ => match args, σ with
  | [.dat (.slc .one ds), .dat (.int .u64 n), .dat (.int .i64 k)], [] => .chk (fits .one ds && decide (0 ≤ n) && decide (ds.length + 8 ≤ LIM)) (.leaf ([slcOf (ds ++ numB n (fitI k).toNat)], [mkDyn .one (ds ++ numB n (fitI k).toNat)]))
  | _, _ => .fail

theorem num_run (n k : Int) (ds : List D) : runF E_num false Try.f6 [.dat (.slc .one ds), .dat (.int .u64 n), .dat (.int .i64 k)] [] =
  (bif fits Sh.one ds then 
   (bif decide (((0 : Nat) + List.length ds) * (1 : Nat) ≤ (35184372088832 : Nat)) then 
    (bif Nat.beq ((0 : Nat) + List.length ds) (List.length ds) && Nat.beq ((0 : Nat) + List.length ds) (List.length ds) && decide ((0 : Int) ≤ n) && decide ((-1 : Int) ≤ IntKind.wrap IntKind.i64 (fitI k - (1 : Int))) && decide (IntKind.wrap IntKind.i64 (fitI k - (1 : Int)) ≤ (7 : Int)) && decide (List.length ds + (8 : Nat) ≤ (35184372088832 : Nat)) then some ([AV.sref Sh.one (0 : Nat) (List.length (ds ++ numB n (Int.toNat (IntKind.wrap IntKind.i64 (fitI k - (1 : Int)) + (1 : Int))))) [] (0 : Nat) (List.length (ds ++ numB n (Int.toNat (IntKind.wrap IntKind.i64 (fitI k - (1 : Int)) + (1 : Int)))))], [{ sh := Sh.arr Sh.one (0 : Nat), dyn := true, frz := false, v := AV.dat (D.arr Sh.one (ds ++ numB n (Int.toNat (IntKind.wrap IntKind.i64 (fitI k - (1 : Int)) + (1 : Int))))) }]) else none) else none) else none) := by kernel_rfl

theorem S25_26 : SpecsOk Try.prog [(25, S_own), (26, S_fit)] := .cons own_ok (.cons fit_ok (.nil _))

theorem num_ok : FunOk Try.prog 6 (FunT.run S_num) := by
  refine fun_ok (E := E_num) (fz := false) (fn := Try.f6) (envOf_ok progOk S25_26) (by kernel_rfl) (by kernel_rfl) num_loops ?_
  intro args σ r h
  unfold S_num at h
  split at h
  · rename_i ds n k
    obtain ⟨hc, h'⟩ := T.chk_some h
    rw [← T.leaf_some h', num_run]
    simp only [Bool.and_eq_true, decide_eq_true_eq] at hc
    have hk := fitI_in k
    have e1 : IntKind.wrap .i64 (fitI k - 1) = fitI k - 1 := by rw [IntKind.wrap_i64]; omega
    have e2 : fitI k - 1 + 1 = fitI k := by omega
    have hl := hc.2
    unfold LIM at hl
    rw [e1, e2]
    have c1 : ds.length ≤ 35184372088832 := by omega
    have c2 : -1 ≤ fitI k - 1 := by omega
    have c3 : fitI k - 1 ≤ 7 := by omega
    have c4 : ds.length + 8 ≤ 35184372088832 := by omega
    simp only [hc.1.1, hc.1.2, Nat.zero_add, Nat.mul_one, Nat.beq_refl, c1, c2, c3, c4, decide_true, Bool.and_true, cond_true]
    rfl
  · simp [T.run_fail] at h

end Go.Proofs.Ytnailhdfopoibaa
