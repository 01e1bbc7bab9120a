/- Seat 06: rows of numbers. -/
import Derived.Test.YtdgphkifajcejaaA
namespace Go.Proofs.Ytdgphkifajcejaa
open Go.AX
set_option maxRecDepth 100000

abbrev shR : Sh := .agg [.one, .one]
abbrev rowB (f : FuncId) (ds : List D) : Blk := ⟨shR, false, false, .dat (.agg [.slc .one ds, .fn (.func f) [] []])⟩
abbrev pR (i : Nat) : AV := .ptr shR i 0 []
abbrev boxB (i : Nat) : Blk := ⟨.one, false, false, pR i⟩

def S_made : FunT := fun args σ => match args, σ with
  | [AV.ptr (Sh.agg [Sh.one, Sh.one]) 0 0 []], [{ sh := Sh.agg [Sh.one, Sh.one], dyn := false, frz := false, v := AV.dat (D.agg [D.slc Sh.one ds, D.fn (Fn.func f) [] []]) }] => .leaf ([AV.dat (D.bool true)], [{ sh := Sh.agg [Sh.one, Sh.one], dyn := false, frz := false, v := AV.dat (D.agg [D.slc Sh.one ds, D.fn (Fn.func f) [] []]) }])
  | [AV.dat D.nilp], [] => .leaf ([AV.dat (D.bool false)], [])
  | _, _ => .fail
theorem made_case0 (ds : List D) (f : FuncId) : runF (envOf tab [] [] [] []) true Try.f25 [pR 0] [rowB f ds] = FunT.run S_made [pR 0] [rowB f ds] := by kernel_rfl
theorem made_case1  : runF (envOf tab [] [] [] []) true Try.f25 [.dat .nilp] [] = FunT.run S_made [.dat .nilp] [] := by kernel_rfl
theorem made_ok : FunOk Try.prog 25 (FunT.run S_made) := by
  refine fun_ok (E := envOf tab [] [] [] []) (fz := true) (fn := Try.f25) (envOf_ok progOk (.nil _)) (by kernel_rfl) (by kernel_rfl) (loops_none (by kernel_rfl)) ?_
  intro args σ r h
  unfold S_made at h
  split at h
  · exact (made_case0 _ _).trans h
  · exact (made_case1).trans h
  · simp [T.run_fail] at h


def S_free : FunT := fun args σ => match args, σ with
  | [AV.dat (D.int IntKind.i64 x), AV.ptr Sh.one 0 0 []], [{ sh := Sh.one, dyn := false, frz := false, v := AV.ptr (Sh.agg [Sh.one, Sh.one]) 1 0 [] }, { sh := Sh.agg [Sh.one, Sh.one], dyn := false, frz := false, v := AV.dat (D.agg [D.slc Sh.one ds, D.fn (Fn.func 7) [] []]) }] => .leaf ([AV.dat (D.bool !x != (0 : Int))], [{ sh := Sh.one, dyn := false, frz := false, v := AV.ptr (Sh.agg [Sh.one, Sh.one]) (1 : Nat) (0 : Nat) [] }, { sh := Sh.agg [Sh.one, Sh.one], dyn := false, frz := false, v := AV.dat (D.agg [D.slc Sh.one ds, D.fn (Fn.func (7 : Nat)) [] []]) }])
  | _, _ => .fail
theorem free_case0 (x : Int) (ds : List D) : runF (envOf tab [(7, S_there)] [] [] []) true Try.f26 [.dat (.int .i64 x), .ptr .one 0 0 []] [boxB 1, rowB 7 ds] = FunT.run S_free [.dat (.int .i64 x), .ptr .one 0 0 []] [boxB 1, rowB 7 ds] := by kernel_rfl
theorem free_ok : FunOk Try.prog 26 (FunT.run S_free) := by
  refine fun_ok (E := envOf tab [(7, S_there)] [] [] []) (fz := true) (fn := Try.f26) (envOf_ok progOk (.cons there_ok (.nil _))) (by kernel_rfl) (by kernel_rfl) (loops_none (by kernel_rfl)) ?_
  intro args σ r h
  unfold S_free at h
  split at h
  · exact (free_case0 _ _).trans h
  · simp [T.run_fail] at h


def idx_fr (ls : List D) (n : Int) (_ : List D) : Int → Frame' := fun i => mkF 19 [(0, .dat (.slc .one ls)), (1, .fn (.func 26) [] [.ptr .one 0 0 []]), (7, .dat (.int .i64 n)), (8, .dat (.int .i64 i))]
def idx_st (_ : List D) (_ : Int) (ds : List D) : Int → Store := fun _ => [boxB 1, rowB 7 ds]
def idx_step (ls : List D) (n : Int) (ds : List D) : Int → T (Int ⊕ LOut) := fun i => 
  .br (decide (i < n)) (
   .chk (decide ((0 : Int) ≤ i)) (
    .chk (decide (Int.toNat i < List.length ls)) (
     .chk (okE (Ek.int IntKind.i64) (nthD ls (Int.toNat i))) (
      .br (!D.getI (nthD ls (Int.toNat i)) != (0 : Int)) (.leaf (.inr (none, mkF (19 : Nat) [((4 : Nat), AV.dat (D.int IntKind.i64 i))], [{ sh := Sh.one, dyn := false, frz := false, v := AV.ptr (Sh.agg [Sh.one, Sh.one]) (1 : Nat) (0 : Nat) [] }, { sh := Sh.agg [Sh.one, Sh.one], dyn := false, frz := false, v := AV.dat (D.agg [D.slc Sh.one ds, D.fn (Fn.func (7 : Nat)) [] []]) }]))) (.leaf (.inl (IntKind.wrap IntKind.i64 (i + (1 : Int))))))))) (.leaf (.inr ((some (0 : Nat)), mkF (19 : Nat) [], [{ sh := Sh.one, dyn := false, frz := false, v := AV.ptr (Sh.agg [Sh.one, Sh.one]) (1 : Nat) (0 : Nat) [] }, { sh := Sh.agg [Sh.one, Sh.one], dyn := false, frz := false, v := AV.dat (D.agg [D.slc Sh.one ds, D.fn (Fn.func (7 : Nat)) [] []]) }])))
theorem idx_round (lp : Loops) (ls : List D) (n : Int) (ds : List D) (i : Int) (K : Kt) : oneRound (envOf tab [(26, S_free)] [] lp []) Try.f27 0 (2) (mkF 19 [(0, .dat (.slc .one ls)), (1, .fn (.func 26) [] [.ptr .one 0 0 []]), (7, .dat (.int .i64 n)), (8, .dat (.int .i64 i))]) ([boxB 1, rowB 7 ds]) K =
  (bif decide (i < n) then 
   (bif decide ((0 : Int) ≤ i) then 
    (bif decide (Int.toNat i < List.length ls) then 
     (bif okE (Ek.int IntKind.i64) (nthD ls (Int.toNat i)) then 
      (bif !D.getI (nthD ls (Int.toNat i)) != (0 : Int) then K (Exit.ret) (mkF (19 : Nat) [((4 : Nat), AV.dat (D.int IntKind.i64 i))]) ([{ sh := Sh.one, dyn := false, frz := false, v := AV.ptr (Sh.agg [Sh.one, Sh.one]) (1 : Nat) (0 : Nat) [] }, { sh := Sh.agg [Sh.one, Sh.one], dyn := false, frz := false, v := AV.dat (D.agg [D.slc Sh.one ds, D.fn (Fn.func (7 : Nat)) [] []]) }]) else K (Exit.normal) (mkF (19 : Nat) [((0 : Nat), AV.dat (D.slc Sh.one ls)), ((1 : Nat), AV.fn (Fn.func (26 : Nat)) [] [AV.ptr Sh.one (0 : Nat) (0 : Nat) []]), ((7 : Nat), AV.dat (D.int IntKind.i64 n)), ((8 : Nat), AV.dat (D.int IntKind.i64 (IntKind.wrap IntKind.i64 (i + (1 : Int))))), ((9 : Nat), AV.dat (D.bool (decide (i < n)))), ((18 : Nat), AV.dat (D.int IntKind.i64 (IntKind.wrap IntKind.i64 (i + (1 : Int)))))]) ([{ sh := Sh.one, dyn := false, frz := false, v := AV.ptr (Sh.agg [Sh.one, Sh.one]) (1 : Nat) (0 : Nat) [] }, { sh := Sh.agg [Sh.one, Sh.one], dyn := false, frz := false, v := AV.dat (D.agg [D.slc Sh.one ds, D.fn (Fn.func (7 : Nat)) [] []]) }])) else none) else none) else none) else K (Exit.exit (0 : Nat)) (mkF (19 : Nat) []) ([{ sh := Sh.one, dyn := false, frz := false, v := AV.ptr (Sh.agg [Sh.one, Sh.one]) (1 : Nat) (0 : Nat) [] }, { sh := Sh.agg [Sh.one, Sh.one], dyn := false, frz := false, v := AV.dat (D.agg [D.slc Sh.one ds, D.fn (Fn.func (7 : Nat)) [] []]) }])) := by kernel_rfl
theorem idx_hr (lp : Loops) (ls : List D) (n : Int) (ds : List D) : ∀ (a : Int) (K : Kt) (N : Int → Option Res), (∀ a' fr' σ', cleanF (liveAt Try.f27 0) 0 fr' = idx_fr ls n ds a' → trim (2) (idx_fr ls n ds a') σ' = idx_st ls n ds a' → K .normal fr' σ' = N a') →
    oneRound (envOf tab [(26, S_free)] [] lp []) Try.f27 0 (2) (idx_fr ls n ds a) (idx_st ls n ds a) K = (idx_step ls n ds a).k (LK K N) := by
  intro i K N hN
  exact (idx_round lp ls n ds i K).trans (cong2 (cong2 (cong2 (cong2 (cong2 rfl (hN _ _ _ (by kernel_rfl) (by first | exact trim_self (Nat.le_refl _) | kernel_rfl))) rfl) rfl) rfl) rfl)
theorem idx_enter (ls : List D) (n : Int) (ds : List D) (i : Int) (fr : Frame') (hl : Nat.beq fr.length 19 = true) (g0 : fr.getD 0 .undef = AV.dat (D.slc Sh.one ls)) (g1 : fr.getD 1 .undef = AV.fn (Fn.func 26) [] [AV.ptr Sh.one 0 0 []]) (g7 : fr.getD 7 .undef = AV.dat (D.int IntKind.i64 n)) (g8 : fr.getD 8 .undef = AV.dat (D.int IntKind.i64 i)) : cleanF (liveAt Try.f27 0) 0 fr = idx_fr ls n ds i := by
  have e : liveAt Try.f27 0 = [7, 1, 0, 8] := by kernel_rfl
  rw [clean_mk (Nat.eq_of_beq_eq_true hl), e]
  show mkF 19 [(7, fr.getD 7 .undef), (1, fr.getD 1 .undef), (0, fr.getD 0 .undef), (8, fr.getD 8 .undef)] = _
  rw [g7, g1, g0, g8]
  kernel_rfl


abbrev zeroD (d : D) : Bool := !D.getI d != 0
theorem idx_closed (ls : List D) (n : Int) (ds : List D) (hc : (decide (n = (ls.length : Int)) && ls.all (okE (.int .i64)) && decide (ls.length ≤ LIM)) = true) :
    ∃ m, (iterT (idx_step ls n ds) m 0).run = T.run (.br (ls.any zeroD) (.leaf (none, mkF 19 [(4, .dat (.int .i64 (ls.findIdx zeroD : Nat)))], [boxB 1, rowB 7 ds])) (.leaf (some 0, mkF 19 [], [boxB 1, rowB 7 ds]))) := by
  simp only [Bool.and_eq_true, decide_eq_true_eq] at hc
  obtain ⟨⟨rfl, h1⟩, h2⟩ := hc
  unfold LIM at h2
  obtain ⟨m, hm⟩ := iter_find (step := idx_step ls ls.length ds) (ls := ls) (p := zeroD) (o := fun k => (none, mkF 19 [(4, .dat (.int .i64 (k : Int)))], [boxB 1, rowB 7 ds])) (o' := (some 0, mkF 19 [], [boxB 1, rowB 7 ds]))
    (fun k hk => by
      unfold idx_step
      rw [decide_eq_true (show (k : Int) < (ls.length : Int) by omega), decide_eq_true (show (0 : Int) ≤ (k : Int) by omega), decide_eq_true (show Int.toNat (k : Int) < ls.length by omega), Int.toNat_natCast, List.all_eq_true.1 h1 _ (nthD_mem hk), wrap_succ (by omega)]
      show _ = some (bif (!D.getI (nthD ls k) != 0) then _ else _)
      cases (!D.getI (nthD ls k) != 0) <;> rfl)
    (by
      unfold idx_step
      rw [decide_eq_false (show ¬ (ls.length : Int) < (ls.length : Int) by omega)]
      rfl)
  refine ⟨m, hm.trans ?_⟩
  cases ls.any zeroD <;> rfl

def L_idx : Frame' → Store → T (Exit × Frame' × Store) := fun fr σ => match fr.getD 0 .undef, fr.getD 1 .undef, fr.getD 7 .undef, fr.getD 8 .undef, σ with
  | AV.dat (D.slc Sh.one ls), AV.fn (Fn.func 26) [] [AV.ptr Sh.one 0 0 []], AV.dat (D.int IntKind.i64 n), AV.dat (D.int IntKind.i64 0), [{ sh := Sh.one, dyn := false, frz := false, v := AV.ptr (Sh.agg [Sh.one, Sh.one]) 1 0 [] }, { sh := Sh.agg [Sh.one, Sh.one], dyn := false, frz := false, v := AV.dat (D.agg [D.slc Sh.one ds, D.fn (Fn.func 7) [] []]) }] => .chk (Nat.beq fr.length 19 && (decide (n = (ls.length : Int)) && ls.all (okE (.int .i64)) && decide (ls.length ≤ LIM))) (T.bind (.br (ls.any zeroD) (.leaf (none, mkF 19 [(4, .dat (.int .i64 (ls.findIdx zeroD : Nat)))], [boxB 1, rowB 7 ds])) (.leaf (some 0, mkF 19 [], [boxB 1, rowB 7 ds]))) fun o => .leaf (outEx o.1, o.2.1, o.2.2))
  | _, _, _, _, _ => .fail
theorem idx_loopOk (lp : Loops) (hk : Loops.get lp 2 = some L_idx) : LoopOk (envOf tab [(26, S_free)] [] lp []) (loopAt Try.f27 0).1 (loopAt Try.f27 0).2 := by
  refine loop_ok (L := L_idx) hk ?_
  intro fr σ p h K r hK
  unfold L_idx at h
  split at h
  · rename_i ls n ds g0 g1 g7 g8
    obtain ⟨hc, h'⟩ := T.chk_some h
    rw [Bool.and_eq_true] at hc
    obtain ⟨hl, hc⟩ := hc
    obtain ⟨o, ho, h'⟩ := T.bind_some h'
    have hp := T.leaf_some h'
    subst hp
    obtain ⟨nF, hn⟩ : ∃ nF, (iterT (idx_step ls n ds) nF (0)).run = T.run (.br (ls.any zeroD) (.leaf (none, mkF 19 [(4, .dat (.int .i64 (ls.findIdx zeroD : Nat)))], [boxB 1, rowB 7 ds])) (.leaf (some 0, mkF 19 [], [boxB 1, rowB 7 ds]))) := idx_closed ls n ds hc
    rw [ho] at hn
    refine ⟨nF, ?_⟩
    have he : cleanF (liveAt Try.f27 0) 0 fr = idx_fr ls n ds (0) := idx_enter ls n ds _ fr hl g0 g1 g7 g8
    refine (iter_ok (base := 2) (idx_hr lp ls n ds) K nF (0) _ _ (by rw [clean_clean]; exact he) (by first | exact trim_self (Nat.le_refl _) | kernel_rfl)).trans ?_
    rw [T.k_run hn]
    exact hK
  · simp [T.run_fail] at h


def S_index : FunT := fun args σ => match args, σ with
  | [AV.dat (D.slc Sh.one ls), AV.fn (Fn.func 26) [] [AV.ptr Sh.one 0 0 []]], [{ sh := Sh.one, dyn := false, frz := false, v := AV.ptr (Sh.agg [Sh.one, Sh.one]) 1 0 [] }, { sh := Sh.agg [Sh.one, Sh.one], dyn := false, frz := false, v := AV.dat (D.agg [D.slc Sh.one ds, D.fn (Fn.func 7) [] []]) }] => 
    .chk (decide ((↑(List.length ls) : Int) = (↑(List.length ls) : Int)) && List.all ls (okE (Ek.int IntKind.i64)) && decide (List.length ls ≤ (35184372088832 : Nat))) (.leaf ([AV.dat (D.int IntKind.i64 (bif List.any ls zeroD then (↑(List.findIdx zeroD ls) : Int) else (-1 : Int)))], [{ sh := Sh.one, dyn := false, frz := false, v := AV.ptr (Sh.agg [Sh.one, Sh.one]) (1 : Nat) (0 : Nat) [] }, { sh := Sh.agg [Sh.one, Sh.one], dyn := false, frz := false, v := AV.dat (D.agg [D.slc Sh.one ds, D.fn (Fn.func (7 : Nat)) [] []]) }]))
  | _, _ => .fail
theorem index_raw0 (ls ds : List D) : runF (envOf tab [(26, S_free)] [] [(2, L_idx)] []) true Try.f27 [.dat (.slc .one ls), .fn (.func 26) [] [.ptr .one 0 0 []]] [boxB 1, rowB 7 ds] =
  (bif decide ((↑(List.length ls) : Int) = (↑(List.length ls) : Int)) && List.all ls (okE (Ek.int IntKind.i64)) && decide (List.length ls ≤ (35184372088832 : Nat)) then 
   (bif List.any ls zeroD then some ([AV.dat (D.int IntKind.i64 (↑(List.findIdx zeroD ls) : Int))], [{ sh := Sh.one, dyn := false, frz := false, v := AV.ptr (Sh.agg [Sh.one, Sh.one]) (1 : Nat) (0 : Nat) [] }, { sh := Sh.agg [Sh.one, Sh.one], dyn := false, frz := false, v := AV.dat (D.agg [D.slc Sh.one ds, D.fn (Fn.func (7 : Nat)) [] []]) }]) else some ([AV.dat (D.int IntKind.i64 (-1 : Int))], [{ sh := Sh.one, dyn := false, frz := false, v := AV.ptr (Sh.agg [Sh.one, Sh.one]) (1 : Nat) (0 : Nat) [] }, { sh := Sh.agg [Sh.one, Sh.one], dyn := false, frz := false, v := AV.dat (D.agg [D.slc Sh.one ds, D.fn (Fn.func (7 : Nat)) [] []]) }])) else none) := by kernel_rfl
theorem index_case0 (ls ds : List D) : runF (envOf tab [(26, S_free)] [] [(2, L_idx)] []) true Try.f27 [.dat (.slc .one ls), .fn (.func 26) [] [.ptr .one 0 0 []]] [boxB 1, rowB 7 ds] = FunT.run S_index [.dat (.slc .one ls), .fn (.func 26) [] [.ptr .one 0 0 []]] [boxB 1, rowB 7 ds] := (index_raw0 ls ds).trans (cong2 (cond_cases (fun h0 => (by (try rw [h0]) <;> rfl)) (fun h0 => (by (try rw [h0]) <;> rfl))) rfl)
theorem index_ok : FunOk Try.prog 27 (FunT.run S_index) := by
  refine fun_ok (E := envOf tab [(26, S_free)] [] [(2, L_idx)] []) (fz := true) (fn := Try.f27) (envOf_ok progOk (.cons free_ok (.nil _))) (by kernel_rfl) (by kernel_rfl) (loops_one (by kernel_rfl) (idx_loopOk _ rfl)) ?_
  intro args σ r h
  unfold S_index at h
  split at h
  · exact (index_case0 _ _).trans h
  · simp [T.run_fail] at h


end Go.Proofs.Ytdgphkifajcejaa
