/- Seat 16: slots of a holder. -/
import Derived.Test.YtnegedbjcjfndaaE
namespace Go.Proofs.Ytnegedbjcjfndaa
open Go.AX
set_option maxRecDepth 100000

/-! Slots of a holder. -/
def isB (k w a b : Int) (d : D) : Bool := fU d && (fK d == k && (fW d == w && (fA d == a && fB d == b)))
def slTo (ls : List D) (k w a b : Int) : List D := colTo (fun i => isB k w a b (nthD ls i)) ls.length
theorem sl_closed (ls : List D) (n k w a b : Int) (hc : (decide (n = (ls.length : Int)) && okEs ls) = true) :
    ∃ z, (iterT (sl_step ls n k w a b) z (0, 0, 0, [])).run = T.run (.leaf (some 0, mkF 29 [(5, .sref .one 1 (slTo ls k w a b).length [] 0 (slTo ls k w a b).length)], [⟨.agg [.one, .one, .agg [.one, .one]], false, false, .dat (.agg [.int .i64 k, .int .i64 w, .agg [.int .i64 a, .int .i64 b]])⟩, mkDyn .one (slTo ls k w a b)])) := by
  simp only [Bool.and_eq_true, decide_eq_true_eq] at hc
  obtain ⟨rfl, hx⟩ := hc
  obtain ⟨h1, h2⟩ := okEs_spec hx
  refine iter_collect (fun i => isB k w a b (nthD ls i)) (o := fun out => (some 0, mkF 29 [(5, .sref .one 1 out.length [] 0 out.length)], [⟨.agg [.one, .one, .agg [.one, .one]], false, false, .dat (.agg [.int .i64 k, .int .i64 w, .agg [.int .i64 a, .int .i64 b]])⟩, mkDyn .one out])) (fun i hi out ho => ?_) (fun out => ?_)
  · have hq := allE_nth h1 hi
    have e0 : isB k w a b (nthD ls i) = (D.getB (nthD (D.getL (nthD ls i)) 0) && (D.getI (nthD (D.getL (nthD ls i)) 2) == k && (D.getI (nthD (D.getL (nthD ls i)) 3) == w && (D.getI (nthD (D.getL (nthD (D.getL (nthD ls i)) 4)) 0) == a && (D.getI (nthD (D.getL (nthD (D.getL (nthD ls i)) 4)) 1) == b && true) && true)))) := by unfold isB; simp
    unfold sl_step
    simp only [decide_eq_true (show (i : Int) < (ls.length : Int) by omega), decide_eq_true (show (0 : Int) ≤ (i : Int) by omega), Int.toNat_natCast, decide_eq_true hi, hq, beq_self, D.eqb_self, decide_eq_true (show (out.length + 1) * 8 ≤ 35184372088832 by omega), wrap_succ (show i < 2 ^ 62 by omega), Bool.not_true, Bool.or_true, Bool.and_true, T.run_br, T.run_chk, T.run_leaf, cond_true, cond_false, e0]
    cases D.getB (nthD (D.getL (nthD ls i)) 0) <;> rfl
  · unfold sl_step
    simp only [decide_eq_false (show ¬ (ls.length : Int) < (ls.length : Int) by omega)]
    rfl
def L_sl : Frame' → Store → T (Exit × Frame' × Store) := fun fr σ => match fr.getD 3 .undef, fr.getD 5 .undef, fr.getD 8 .undef, fr.getD 9 .undef, fr.getD 10 .undef, σ with
  | AV.ptr (Sh.agg [Sh.one, Sh.one, Sh.agg [Sh.one, Sh.one]]) 0 0 [], AV.sref Sh.one 1 0 [] 0 0, AV.dat (D.slc (Sh.agg [Sh.one, Sh.one, Sh.one, Sh.one, Sh.agg [Sh.one, Sh.one]]) ls), AV.dat (D.int IntKind.i64 n), AV.dat (D.int IntKind.i64 0), [{ sh := Sh.agg [Sh.one, Sh.one, Sh.agg [Sh.one, Sh.one]], dyn := false, frz := false, v := AV.dat (D.agg [D.int IntKind.i64 k, D.int IntKind.i64 w, D.agg [D.int IntKind.i64 a, D.int IntKind.i64 b]]) }, { sh := Sh.arr Sh.one 0, dyn := true, frz := false, v := AV.dat (D.arr Sh.one []) }] => .chk (Nat.beq fr.length 29 && (decide (n = (ls.length : Int)) && okEs ls)) (T.bind (.leaf (some 0, mkF 29 [(5, .sref .one 1 (slTo ls k w a b).length [] 0 (slTo ls k w a b).length)], [⟨.agg [.one, .one, .agg [.one, .one]], false, false, .dat (.agg [.int .i64 k, .int .i64 w, .agg [.int .i64 a, .int .i64 b]])⟩, mkDyn .one (slTo ls k w a b)])) fun o => .leaf (outEx o.1, o.2.1, o.2.2))
  | _, _, _, _, _, _ => .fail
theorem sl_sem (lp : Loops) : ∀ fr σ p, (L_sl fr σ).run = some p → ∀ (K : Kt) r, K p.1 p.2.1 p.2.2 = some r → ∃ n, loopRun (envOf tab SpI2 [] lp [(2, 0, [.own 5])]) Try.f32 0 σ.length n (cleanF (liveAt Try.f32 0) 0 fr) σ K = some r := by
  intro fr σ p h K r hK
  unfold L_sl at h
  split at h
  · rename_i ls n k w a b g3 g5 g8 g9 g10
    obtain ⟨hc, h'⟩ := T.chk_some h
    rw [Bool.and_eq_true] at hc
    obtain ⟨hl, hc⟩ := hc
    obtain ⟨o, ho, h'⟩ := T.bind_some h'
    have hp := T.leaf_some h'
    subst hp
    obtain ⟨nF, hn⟩ : ∃ nF, (iterT (sl_step ls n k w a b) nF ((0, 0, 0, []))).run = T.run (.leaf (some 0, mkF 29 [(5, .sref .one 1 (slTo ls k w a b).length [] 0 (slTo ls k w a b).length)], [⟨.agg [.one, .one, .agg [.one, .one]], false, false, .dat (.agg [.int .i64 k, .int .i64 w, .agg [.int .i64 a, .int .i64 b]])⟩, mkDyn .one (slTo ls k w a b)])) := sl_closed ls n k w a b hc
    rw [ho] at hn
    refine ⟨nF, ?_⟩
    have he : cleanF (liveAt Try.f32 0) 0 fr = sl_fr ls n k w a b ((0, 0, 0, [])) := sl_enter ls n k w a b _ _ _ _ fr hl g3 g5 g8 g9 g10
    refine (iter_ok (base := 2) (sl_hr lp ls n k w a b) K nF ((0, 0, 0, [])) _ _ (by rw [clean_clean]; exact he) (by kernel_rfl)).trans ?_
    rw [T.k_run hn]
    exact hK
  · simp [T.run_fail] at h
theorem sl_loopOk (lp : Loops) (hk : Loops.get lp 3 = some L_sl) : LoopOk (envOf tab SpI2 [] lp [(2, 0, [.own 5])]) (loopAt Try.f32 0).1 (loopAt Try.f32 0).2 := loop_ok (L := L_sl) hk (sl_sem lp)

def slots_pre (ls : List D) (k : Int) (w : Int) (a : Int) (b : Int) : Bool := decide ((↑(List.length ls) : Int) = (↑(List.length ls) : Int)) && okEs ls && Nat.beq (List.length (slTo ls k w a b)) (List.length (slTo ls k w a b))
def C_slots : FunT := fun args σ => match args, σ with
  | [AV.dat (D.slc (Sh.agg [Sh.one, Sh.one, Sh.one, Sh.one, Sh.agg [Sh.one, Sh.one]]) ls), AV.dat (D.agg [D.int IntKind.i64 k, D.int IntKind.i64 w, D.agg [D.int IntKind.i64 a, D.int IntKind.i64 b]])], [] => .chk ((slots_pre ls k w a b)) (.leaf ([AV.dat (D.slc Sh.one (seg (slTo ls k w a b) (0 : Nat) (List.length (slTo ls k w a b))))], []))
  | _, _ => .fail
theorem slots_raw0 (ls : List D) (k w a b : Int) : runF (envOf tab SpI2 [] [(3, L_sl)] [(2, 0, [.own 5])]) true Try.f32 [.dat (.slc (.agg [.one, .one, .one, .one, .agg [.one, .one]]) ls), .dat (.agg [.int .i64 k, .int .i64 w, .agg [.int .i64 a, .int .i64 b]])] [] =
  (bif decide ((↑(List.length ls) : Int) = (↑(List.length ls) : Int)) && okEs ls then 
   (bif Nat.beq (List.length (slTo ls k w a b)) (List.length (slTo ls k w a b)) then some ([AV.dat (D.slc Sh.one (seg (slTo ls k w a b) (0 : Nat) (List.length (slTo ls k w a b))))], []) else none) else none) := by kernel_rfl
theorem slots_case0 (ls : List D) (k w a b : Int) : runF (envOf tab SpI2 [] [(3, L_sl)] [(2, 0, [.own 5])]) true Try.f32 [.dat (.slc (.agg [.one, .one, .one, .one, .agg [.one, .one]]) ls), .dat (.agg [.int .i64 k, .int .i64 w, .agg [.int .i64 a, .int .i64 b]])] [] = FunT.run C_slots [.dat (.slc (.agg [.one, .one, .one, .one, .agg [.one, .one]]) ls), .dat (.agg [.int .i64 k, .int .i64 w, .agg [.int .i64 a, .int .i64 b]])] [] := (slots_raw0 ls k w a b).trans (by
  show _ = (cond (decide ((↑(List.length ls) : Int) = (↑(List.length ls) : Int)) && okEs ls && Nat.beq (List.length (slTo ls k w a b)) (List.length (slTo ls k w a b))) (some (([AV.dat (D.slc Sh.one (seg (slTo ls k w a b) (0 : Nat) (List.length (slTo ls k w a b))))], []) : Res)) none)
  generalize (decide ((↑(List.length ls) : Int) = (↑(List.length ls) : Int)) && okEs ls) = z0
  generalize (Nat.beq (List.length (slTo ls k w a b)) (List.length (slTo ls k w a b))) = z1
  cases z0 with
  | true =>
   cases z1 with
   | true =>
    rfl
   | false =>
    rfl
  | false =>
   rfl
  )
theorem cslots_ok : FunOk Try.prog 32 (FunT.run C_slots) := by
  refine fun_ok (E := envOf tab SpI2 [] [(3, L_sl)] [(2, 0, [.own 5])]) (fz := true) (fn := Try.f32) (envOf_ok progOk SpI2_ok) (by kernel_rfl) (by kernel_rfl) (loops_one (by kernel_rfl) (sl_loopOk _ rfl)) ?_
  intro args σ r h
  unfold C_slots at h
  split at h
  · exact (slots_case0 _ _ _ _ _).trans h
  · simp [T.run_fail] at h

def held_v0 (ls : List D) (w : Int) : List D := seg (slTo ls (1 : Int) w (0 : Int) (0 : Int)) (0 : Nat) (List.length (slTo ls (1 : Int) w (0 : Int) (0 : Int)))
def C_held : FunT := fun args σ => match args, σ with
  | [AV.dat (D.slc (Sh.agg [Sh.one, Sh.one, Sh.one, Sh.one, Sh.agg [Sh.one, Sh.one]]) ls), AV.dat (D.int IntKind.i64 w)], [] => .chk (slots_pre ls (1 : Int) w (0 : Int) (0 : Int)) (.leaf ([AV.dat (D.slc Sh.one (held_v0 ls w))], []))
  | _, _ => .fail
theorem held_raw0 (ls : List D) (w : Int) : runF (envOf tab ((32, C_slots) :: SpI2) [] [] []) true Try.f8 [.dat (.slc (.agg [.one, .one, .one, .one, .agg [.one, .one]]) ls), .dat (.int .i64 w)] [] =
  (bif slots_pre ls (1 : Int) w (0 : Int) (0 : Int) then some ([AV.dat (D.slc Sh.one (seg (slTo ls (1 : Int) w (0 : Int) (0 : Int)) (0 : Nat) (List.length (slTo ls (1 : Int) w (0 : Int) (0 : Int)))))], []) else none) := by kernel_rfl
theorem held_case0 (ls : List D) (w : Int) : runF (envOf tab ((32, C_slots) :: SpI2) [] [] []) true Try.f8 [.dat (.slc (.agg [.one, .one, .one, .one, .agg [.one, .one]]) ls), .dat (.int .i64 w)] [] = FunT.run C_held [.dat (.slc (.agg [.one, .one, .one, .one, .agg [.one, .one]]) ls), .dat (.int .i64 w)] [] := (held_raw0 ls w).trans (by
  show _ = (cond (slots_pre ls (1 : Int) w (0 : Int) (0 : Int)) (some (([AV.dat (D.slc Sh.one (seg (slTo ls (1 : Int) w (0 : Int) (0 : Int)) (0 : Nat) (List.length (slTo ls (1 : Int) w (0 : Int) (0 : Int)))))], []) : Res)) none)
  generalize (slots_pre ls (1 : Int) w (0 : Int) (0 : Int)) = z0
  cases z0 with
  | true =>
   rfl
  | false =>
   rfl
  )
theorem cheld_ok : FunOk Try.prog 8 (FunT.run C_held) := by
  refine fun_ok (E := envOf tab ((32, C_slots) :: SpI2) [] [] []) (fz := true) (fn := Try.f8) (envOf_ok progOk (.cons cslots_ok SpI2_ok)) (by kernel_rfl) (by kernel_rfl) (loops_none (by kernel_rfl)) ?_
  intro args σ r h
  unfold C_held at h
  split at h
  · exact (held_case0 _ _).trans h
  · simp [T.run_fail] at h

def lying_v0 (ls : List D) (a : Int) (b : Int) : List D := seg (slTo ls (2 : Int) (0 : Int) a b) (0 : Nat) (List.length (slTo ls (2 : Int) (0 : Int) a b))
def C_lying : FunT := fun args σ => match args, σ with
  | [AV.dat (D.slc (Sh.agg [Sh.one, Sh.one, Sh.one, Sh.one, Sh.agg [Sh.one, Sh.one]]) ls), AV.dat (D.agg [D.int IntKind.i64 a, D.int IntKind.i64 b])], [] => .chk (slots_pre ls (2 : Int) (0 : Int) a b) (.leaf ([AV.dat (D.slc Sh.one (lying_v0 ls a b))], []))
  | _, _ => .fail
theorem lying_raw0 (ls : List D) (a b : Int) : runF (envOf tab ((32, C_slots) :: SpI2) [] [] []) true Try.f9 [.dat (.slc (.agg [.one, .one, .one, .one, .agg [.one, .one]]) ls), .dat (.agg [.int .i64 a, .int .i64 b])] [] =
  (bif slots_pre ls (2 : Int) (0 : Int) a b then some ([AV.dat (D.slc Sh.one (seg (slTo ls (2 : Int) (0 : Int) a b) (0 : Nat) (List.length (slTo ls (2 : Int) (0 : Int) a b))))], []) else none) := by kernel_rfl
theorem lying_case0 (ls : List D) (a b : Int) : runF (envOf tab ((32, C_slots) :: SpI2) [] [] []) true Try.f9 [.dat (.slc (.agg [.one, .one, .one, .one, .agg [.one, .one]]) ls), .dat (.agg [.int .i64 a, .int .i64 b])] [] = FunT.run C_lying [.dat (.slc (.agg [.one, .one, .one, .one, .agg [.one, .one]]) ls), .dat (.agg [.int .i64 a, .int .i64 b])] [] := (lying_raw0 ls a b).trans (by
  show _ = (cond (slots_pre ls (2 : Int) (0 : Int) a b) (some (([AV.dat (D.slc Sh.one (seg (slTo ls (2 : Int) (0 : Int) a b) (0 : Nat) (List.length (slTo ls (2 : Int) (0 : Int) a b))))], []) : Res)) none)
  generalize (slots_pre ls (2 : Int) (0 : Int) a b) = z0
  cases z0 with
  | true =>
   rfl
  | false =>
   rfl
  )
theorem clying_ok : FunOk Try.prog 9 (FunT.run C_lying) := by
  refine fun_ok (E := envOf tab ((32, C_slots) :: SpI2) [] [] []) (fz := true) (fn := Try.f9) (envOf_ok progOk (.cons cslots_ok SpI2_ok)) (by kernel_rfl) (by kernel_rfl) (loops_none (by kernel_rfl)) ?_
  intro args σ r h
  unfold C_lying at h
  split at h
  · exact (lying_case0 _ _ _).trans h
  · simp [T.run_fail] at h


end Go.Proofs.Ytnegedbjcjfndaa
