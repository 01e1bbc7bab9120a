/- Seat 15: names. -/
import Derived.Test.YtnegedbjcjfndaaTab
import Derived.Test.YtnegedbjcjfndaaAx28
namespace Go.Proofs.Ytnegedbjcjfndaa
open Go.AX
set_option maxRecDepth 100000

def small_v0 (n : Int) : Bool := decide ((97 : Int) ≤ n) && decide (n ≤ (122 : Int))
def C_small : FunT := fun args σ => match args, σ with
  | [AV.dat (D.int IntKind.u8 n)], [] => .leaf ([AV.dat (D.bool (small_v0 n))], [])
  | _, _ => .fail
theorem small_raw0 (n : Int) : runF (envOf tab [] [] [] []) true Try.f52 [.dat (.int .u8 n)] [] =
  (bif decide (n ≥ (97 : Int)) then some ([AV.dat (D.bool (decide (n ≤ (122 : Int))))], []) else some ([AV.dat (D.bool false)], [])) := by kernel_rfl
theorem small_case0 (n : Int) : runF (envOf tab [] [] [] []) true Try.f52 [.dat (.int .u8 n)] [] = FunT.run C_small [.dat (.int .u8 n)] [] := (small_raw0 n).trans (by
  show _ = some (([AV.dat (D.bool (decide ((97 : Int) ≤ n) && decide (n ≤ (122 : Int))))], []) : Res)
  generalize (decide ((97 : Int) ≤ n)) = z0
  cases z0 with
  | true =>
   rfl
  | false =>
   rfl
  )
theorem csmall_ok : FunOk Try.prog 52 (FunT.run C_small) := by
  refine fun_ok (E := envOf tab [] [] [] []) (fz := true) (fn := Try.f52) (envOf_ok progOk (.nil _)) (by kernel_rfl) (by kernel_rfl) (loops_none (by kernel_rfl)) ?_
  intro args σ r h
  unfold C_small at h
  split at h
  · exact (small_case0 _).trans h
  · simp [T.run_fail] at h

def digit_v0 (n : Int) : Bool := decide ((48 : Int) ≤ n) && decide (n ≤ (57 : Int))
def C_digit : FunT := fun args σ => match args, σ with
  | [AV.dat (D.int IntKind.u8 n)], [] => .leaf ([AV.dat (D.bool (digit_v0 n))], [])
  | _, _ => .fail
theorem digit_raw0 (n : Int) : runF (envOf tab [] [] [] []) true Try.f55 [.dat (.int .u8 n)] [] =
  (bif decide (n ≥ (48 : Int)) then some ([AV.dat (D.bool (decide (n ≤ (57 : Int))))], []) else some ([AV.dat (D.bool false)], [])) := by kernel_rfl
theorem digit_case0 (n : Int) : runF (envOf tab [] [] [] []) true Try.f55 [.dat (.int .u8 n)] [] = FunT.run C_digit [.dat (.int .u8 n)] [] := (digit_raw0 n).trans (by
  show _ = some (([AV.dat (D.bool (decide ((48 : Int) ≤ n) && decide (n ≤ (57 : Int))))], []) : Res)
  generalize (decide ((48 : Int) ≤ n)) = z0
  cases z0 with
  | true =>
   rfl
  | false =>
   rfl
  )
theorem cdigit_ok : FunOk Try.prog 55 (FunT.run C_digit) := by
  refine fun_ok (E := envOf tab [] [] [] []) (fz := true) (fn := Try.f55) (envOf_ok progOk (.nil _)) (by kernel_rfl) (by kernel_rfl) (loops_none (by kernel_rfl)) ?_
  intro args σ r h
  unfold C_digit at h
  split at h
  · exact (digit_case0 _).trans h
  · simp [T.run_fail] at h

def sign_v0 (n : Int) : Bool := small_v0 n || digit_v0 n
def C_sign : FunT := fun args σ => match args, σ with
  | [AV.dat (D.int IntKind.u8 n)], [] => .leaf ([AV.dat (D.bool (sign_v0 n))], [])
  | _, _ => .fail
theorem sign_raw0 (n : Int) : runF (envOf tab [(52, C_small), (55, C_digit)] [] [] []) true Try.f54 [.dat (.int .u8 n)] [] =
  (bif small_v0 n then some ([AV.dat (D.bool true)], []) else some ([AV.dat (D.bool (digit_v0 n))], [])) := by kernel_rfl
theorem sign_case0 (n : Int) : runF (envOf tab [(52, C_small), (55, C_digit)] [] [] []) true Try.f54 [.dat (.int .u8 n)] [] = FunT.run C_sign [.dat (.int .u8 n)] [] := (sign_raw0 n).trans (by
  show _ = some (([AV.dat (D.bool (small_v0 n || digit_v0 n))], []) : Res)
  generalize (small_v0 n) = z0
  cases z0 with
  | true =>
   rfl
  | false =>
   rfl
  )
theorem csign_ok : FunOk Try.prog 54 (FunT.run C_sign) := by
  refine fun_ok (E := envOf tab [(52, C_small), (55, C_digit)] [] [] []) (fz := true) (fn := Try.f54) (envOf_ok progOk (.cons csmall_ok (.cons cdigit_ok (.nil _)))) (by kernel_rfl) (by kernel_rfl) (loops_none (by kernel_rfl)) ?_
  intro args σ r h
  unfold C_sign at h
  split at h
  · exact (sign_case0 _).trans h
  · simp [T.run_fail] at h

abbrev boxF (f : FuncId) : Blk := ⟨.one, false, false, .fn (.func f) [] []⟩
def nsign_v0 (n : Int) : Bool := !sign_v0 n
def C_nsign : FunT := fun args σ => match args, σ with
  | [AV.dat (D.int IntKind.u8 n), AV.ptr Sh.one 0 0 []], [{ sh := Sh.one, dyn := false, frz := false, v := AV.dat (D.fn (Fn.func 54) [] []) }] => .leaf ([AV.dat (D.bool (nsign_v0 n))], [{ sh := Sh.one, dyn := false, frz := false, v := AV.dat (D.fn (Fn.func 54) [] []) }])
  | _, _ => .fail
theorem nsign_raw0 (n : Int) : runF (envOf tab [(54, C_sign)] [] [] []) true Try.f61 [.dat (.int .u8 n), .ptr .one 0 0 []] [⟨.one, false, false, .dat (.fn (.func 54) [] [])⟩] =some ([AV.dat (D.bool !sign_v0 n)], [{ sh := Sh.one, dyn := false, frz := false, v := AV.dat (D.fn (Fn.func 54) [] []) }]) := by kernel_rfl
theorem nsign_case0 (n : Int) : runF (envOf tab [(54, C_sign)] [] [] []) true Try.f61 [.dat (.int .u8 n), .ptr .one 0 0 []] [⟨.one, false, false, .dat (.fn (.func 54) [] [])⟩] = FunT.run C_nsign [.dat (.int .u8 n), .ptr .one 0 0 []] [⟨.one, false, false, .dat (.fn (.func 54) [] [])⟩] := (nsign_raw0 n).trans (by
  show _ = some (([AV.dat (D.bool !sign_v0 n)], [{ sh := Sh.one, dyn := false, frz := false, v := AV.dat (D.fn (Fn.func 54) [] []) }]) : Res)
  rfl
  )
theorem cnsign_ok : FunOk Try.prog 61 (FunT.run C_nsign) := by
  refine fun_ok (E := envOf tab [(54, C_sign)] [] [] []) (fz := true) (fn := Try.f61) (envOf_ok progOk (.cons csign_ok (.nil _))) (by kernel_rfl) (by kernel_rfl) (loops_none (by kernel_rfl)) ?_
  intro args σ r h
  unfold C_nsign at h
  split at h
  · exact (nsign_case0 _).trans h
  · simp [T.run_fail] at h


abbrev nstB : Store := [⟨.one, false, false, .dat (.fn (.func 54) [] [])⟩]
def ib_fr (ls : List D) (n : Int) : Int → Frame' := fun i => mkF 19 [(0, .dat (.slc .one ls)), (1, (.fn (.func 61) [] [.ptr .one 0 0 []])), (7, .dat (.int .i64 n)), (8, .dat (.int .i64 i))]
def ib_st (ls : List D) (n : Int) : Int → Store := fun i => ([⟨.one, false, false, .dat (.fn (.func 54) [] [])⟩])
def ib_step (ls : List D) (n : Int) : Int → T (Int ⊕ LOut) := fun i => 
  .br (decide (i < n)) (
   .chk (decide ((0 : Int) ≤ i)) (
    .chk (decide (Int.toNat i < List.length ls)) (
     .chk (okE (Ek.int IntKind.u8) (nthD ls (Int.toNat i))) (
      .br (nsign_v0 (D.getI (nthD ls (Int.toNat i)))) (.leaf (.inr (none, mkF 19 [(4, AV.dat (D.int IntKind.i64 i))], [{ sh := Sh.one, dyn := false, frz := false, v := AV.dat (D.fn (Fn.func 54) [] []) }]))) (.leaf (.inl (IntKind.wrap IntKind.i64 (i + (1 : Int))))))))) (.leaf (.inr ((some 0), mkF 19 [], [{ sh := Sh.one, dyn := false, frz := false, v := AV.dat (D.fn (Fn.func 54) [] []) }])))
theorem ib_round (lp : Loops) (ls : List D) (n : Int) (i : Int) (K : Kt) : oneRound (envOf tab ([(61, C_nsign)]) [] lp []) Try.f64 0 (1) (mkF 19 [(0, .dat (.slc .one ls)), (1, (.fn (.func 61) [] [.ptr .one 0 0 []])), (7, .dat (.int .i64 n)), (8, .dat (.int .i64 i))]) (([⟨.one, false, false, .dat (.fn (.func 54) [] [])⟩])) K =
  (bif decide (i < n) then 
   (bif decide ((0 : Int) ≤ i) then 
    (bif decide (Int.toNat i < List.length ls) then 
     (bif okE (Ek.int IntKind.u8) (nthD ls (Int.toNat i)) then 
      (bif nsign_v0 (D.getI (nthD ls (Int.toNat i))) then K (Exit.ret) (mkF 19 [(4, AV.dat (D.int IntKind.i64 i))]) ([{ sh := Sh.one, dyn := false, frz := false, v := AV.dat (D.fn (Fn.func 54) [] []) }]) else K (Exit.normal) (mkF 19 [(0, AV.dat (D.slc Sh.one ls)), (1, AV.fn (Fn.func 61) [] [AV.ptr Sh.one 0 0 []]), (7, AV.dat (D.int IntKind.i64 n)), (8, AV.dat (D.int IntKind.i64 (IntKind.wrap IntKind.i64 (i + (1 : Int))))), (9, AV.dat (D.bool (decide (i < n)))), (18, AV.dat (D.int IntKind.i64 (IntKind.wrap IntKind.i64 (i + (1 : Int)))))]) ([{ sh := Sh.one, dyn := false, frz := false, v := AV.dat (D.fn (Fn.func 54) [] []) }])) else none) else none) else none) else K (Exit.exit 0) (mkF 19 []) ([{ sh := Sh.one, dyn := false, frz := false, v := AV.dat (D.fn (Fn.func 54) [] []) }])) := by kernel_rfl
theorem ib_hr (lp : Loops) (ls : List D) (n : Int) : ∀ (sA : Int) (K : Kt) (N : Int → Option Res), (∀ sB fr' σ', cleanF (liveAt Try.f64 0) 0 fr' = ib_fr ls n sB → trim (1) (ib_fr ls n sB) σ' = ib_st ls n sB → K .normal fr' σ' = N sB) →
    oneRound (envOf tab ([(61, C_nsign)]) [] lp []) Try.f64 0 (1) (ib_fr ls n sA) (ib_st ls n sA) K = (ib_step ls n sA).k (LK K N) := by
  intro i K N hN
  exact (ib_round lp ls n i K).trans (cong2 (cong2 (cong2 (cong2 (cong2 rfl (hN (IntKind.wrap IntKind.i64 (i + (1 : Int))) _ _ (by kernel_rfl) (by kernel_rfl))) rfl) rfl) rfl) rfl)
theorem ib_enter (ls : List D) (n : Int) (i : Int) (fr : Frame') (hl : Nat.beq fr.length 19 = true) (g0 : fr.getD 0 .undef = AV.dat (D.slc Sh.one ls)) (g1 : fr.getD 1 .undef = AV.fn (Fn.func 61) [] [AV.ptr Sh.one 0 0 []]) (g7 : fr.getD 7 .undef = AV.dat (D.int IntKind.i64 n)) (g8 : fr.getD 8 .undef = AV.dat (D.int IntKind.i64 i)) : cleanF (liveAt Try.f64 0) 0 fr = ib_fr ls n i := by
  have e : liveAt Try.f64 0 = [7, 1, 0, 8] := by kernel_rfl
  rw [clean_mk (Nat.eq_of_beq_eq_true hl), e]
  show mkF 19 [(7, fr.getD 7 .undef), (1, fr.getD 1 .undef), (0, fr.getD 0 .undef), (8, fr.getD 8 .undef)] = _
  rw [g7, g1, g0, g8]
  kernel_rfl

def ib_idx  (ls : List D) : Int := bif ls.any ((fun d => nsign_v0 (D.getI d))) then ((ls.findIdx ((fun d => nsign_v0 (D.getI d))) : Nat) : Int) else -1
def ib_okL  (ls : List D) : Bool := ls.all ((okE (.int .u8))) && decide (ls.length ≤ 1099511627776)
theorem ib_closed (ls : List D) (n : Int)  (hc : (decide (n = (ls.length : Int)) && ib_okL  ls) = true) :
    ∃ m, (iterT (ib_step ls n ) m 0).run = T.run (.br (ls.any ((fun d => nsign_v0 (D.getI d)))) (.leaf (none, mkF 19 [(4, .dat (.int .i64 (ls.findIdx ((fun d => nsign_v0 (D.getI d))) : Nat)))], ([⟨.one, false, false, .dat (.fn (.func 54) [] [])⟩]))) (.leaf (some 0, mkF 19 [], ([⟨.one, false, false, .dat (.fn (.func 54) [] [])⟩])))) := by
  unfold ib_okL at hc
  simp only [Bool.and_eq_true, decide_eq_true_eq] at hc
  obtain ⟨rfl, h1, h2⟩ := hc
  obtain ⟨m, hm⟩ := iter_find (step := ib_step ls ls.length ) (ls := ls) (p := (fun d => nsign_v0 (D.getI d))) (o := fun k => (none, mkF 19 [(4, .dat (.int .i64 (k : Int)))], ([⟨.one, false, false, .dat (.fn (.func 54) [] [])⟩]))) (o' := (some 0, mkF 19 [], ([⟨.one, false, false, .dat (.fn (.func 54) [] [])⟩])))
    (fun k hk => by
      have hq := List.all_eq_true.1 h1 _ (nthD_mem hk)
      try simp only [Bool.and_eq_true] at hq
      unfold ib_step
      simp only [decide_eq_true (show (k : Int) < (ls.length : Int) by omega), decide_eq_true (show (0 : Int) ≤ (k : Int) by omega), Int.toNat_natCast, decide_eq_true hk, hq, wrap_succ (show k < 2 ^ 62 by omega), T.run_br, T.run_chk, T.run_leaf, cond_true]
      exact bif_some (((fun d => nsign_v0 (D.getI d))) (nthD ls k)) _ _)
    (by
      unfold ib_step
      rw [decide_eq_false (show ¬ (ls.length : Int) < (ls.length : Int) by omega)]
      rfl)
  refine ⟨m, hm.trans ?_⟩
  cases ls.any ((fun d => nsign_v0 (D.getI d))) <;> rfl

def L_ib : Frame' → Store → T (Exit × Frame' × Store) := fun fr σ => match fr.getD 0 .undef, fr.getD 1 .undef, fr.getD 7 .undef, fr.getD 8 .undef, σ with
  | AV.dat (D.slc Sh.one ls), AV.fn (Fn.func 61) [] [AV.ptr Sh.one 0 0 []], AV.dat (D.int IntKind.i64 n), AV.dat (D.int IntKind.i64 0), [{ sh := Sh.one, dyn := false, frz := false, v := AV.dat (D.fn (Fn.func 54) [] []) }] => .chk (Nat.beq fr.length 19 && (decide (n = (ls.length : Int)) && ib_okL  ls)) (T.bind (.br (ls.any ((fun d => nsign_v0 (D.getI d)))) (.leaf (none, mkF 19 [(4, .dat (.int .i64 (ls.findIdx ((fun d => nsign_v0 (D.getI d))) : Nat)))], ([⟨.one, false, false, .dat (.fn (.func 54) [] [])⟩]))) (.leaf (some 0, mkF 19 [], ([⟨.one, false, false, .dat (.fn (.func 54) [] [])⟩])))) fun o => .leaf (outEx o.1, o.2.1, o.2.2))
  | _, _, _, _, _ => .fail
theorem ib_sem (lp : Loops) : ∀ fr σ p, (L_ib fr σ).run = some p → ∀ (K : Kt) r, K p.1 p.2.1 p.2.2 = some r → ∃ n, loopRun (envOf tab ([(61, C_nsign)]) [] lp []) Try.f64 0 σ.length n (cleanF (liveAt Try.f64 0) 0 fr) σ K = some r := by
  intro fr σ p h K r hK
  unfold L_ib at h
  split at h
  · rename_i ls n g0 g1 g7 g8
    obtain ⟨hc, h'⟩ := T.chk_some h
    rw [Bool.and_eq_true] at hc
    obtain ⟨hl, hc⟩ := hc
    obtain ⟨o, ho, h'⟩ := T.bind_some h'
    have hp := T.leaf_some h'
    subst hp
    obtain ⟨nF, hn⟩ : ∃ nF, (iterT (ib_step ls n) nF (0)).run = T.run (.br (ls.any ((fun d => nsign_v0 (D.getI d)))) (.leaf (none, mkF 19 [(4, .dat (.int .i64 (ls.findIdx ((fun d => nsign_v0 (D.getI d))) : Nat)))], ([⟨.one, false, false, .dat (.fn (.func 54) [] [])⟩]))) (.leaf (some 0, mkF 19 [], ([⟨.one, false, false, .dat (.fn (.func 54) [] [])⟩])))) := ib_closed ls n  hc
    rw [ho] at hn
    refine ⟨nF, ?_⟩
    have he : cleanF (liveAt Try.f64 0) 0 fr = ib_fr ls n (0) := ib_enter ls n _ fr hl g0 g1 g7 g8
    refine (iter_ok (base := 1) (ib_hr lp ls n) K nF (0) _ _ (by rw [clean_clean]; exact he) (by kernel_rfl)).trans ?_
    rw [T.k_run hn]
    exact hK
  · simp [T.run_fail] at h
theorem ib_loopOk (lp : Loops) (hk : Loops.get lp 2 = some L_ib) : LoopOk (envOf tab ([(61, C_nsign)]) [] lp []) (loopAt Try.f64 0).1 (loopAt Try.f64 0).2 := loop_ok (L := L_ib) hk (ib_sem lp)


def S_ib : FunT := fun args σ => match args, σ with
  | [AV.dat (D.slc Sh.one ls), AV.fn (Fn.func 61) [] [AV.ptr Sh.one 0 0 []]], [{ sh := Sh.one, dyn := false, frz := false, v := AV.dat (D.fn (Fn.func 54) [] []) }] => 
    .chk (decide ((↑(List.length ls) : Int) = (↑(List.length ls) : Int)) && ib_okL ls) (.leaf ([AV.dat (D.int IntKind.i64 (bif List.any ls fun d => nsign_v0 (D.getI d) then (↑(List.findIdx (fun d => nsign_v0 (D.getI d)) ls) : Int) else (-1 : Int)))], [{ sh := Sh.one, dyn := false, frz := false, v := AV.dat (D.fn (Fn.func 54) [] []) }]))
  | _, _ => .fail
theorem ib_raw0 (ls : List D) : runF (envOf tab ([(61, C_nsign)]) [] [(2, L_ib)] []) true Try.f64 [.dat (.slc .one ls), (.fn (.func 61) [] [.ptr .one 0 0 []])] ([⟨.one, false, false, .dat (.fn (.func 54) [] [])⟩]) =
  (bif decide ((↑(List.length ls) : Int) = (↑(List.length ls) : Int)) && ib_okL ls then 
   (bif List.any ls fun d => nsign_v0 (D.getI d) then some ([AV.dat (D.int IntKind.i64 (↑(List.findIdx (fun d => nsign_v0 (D.getI d)) ls) : Int))], [{ sh := Sh.one, dyn := false, frz := false, v := AV.dat (D.fn (Fn.func 54) [] []) }]) else some ([AV.dat (D.int IntKind.i64 (-1 : Int))], [{ sh := Sh.one, dyn := false, frz := false, v := AV.dat (D.fn (Fn.func 54) [] []) }])) else none) := by kernel_rfl
theorem ib_case0 (ls : List D) : runF (envOf tab ([(61, C_nsign)]) [] [(2, L_ib)] []) true Try.f64 [.dat (.slc .one ls), (.fn (.func 61) [] [.ptr .one 0 0 []])] ([⟨.one, false, false, .dat (.fn (.func 54) [] [])⟩]) = FunT.run S_ib [.dat (.slc .one ls), (.fn (.func 61) [] [.ptr .one 0 0 []])] ([⟨.one, false, false, .dat (.fn (.func 54) [] [])⟩]) := (ib_raw0 ls).trans (cong2 (cond_cases (fun h0 => (by (try rw [h0]) <;> rfl)) (fun h0 => (by (try rw [h0]) <;> rfl))) rfl)
theorem ib_ok : FunOk Try.prog 64 (FunT.run S_ib) := by
  refine fun_ok (E := envOf tab ([(61, C_nsign)]) [] [(2, L_ib)] []) (fz := true) (fn := Try.f64) (envOf_ok progOk (.cons cnsign_ok (.nil _))) (by kernel_rfl) (by kernel_rfl) (loops_one (by kernel_rfl) (ib_loopOk _ rfl)) ?_
  intro args σ r h
  unfold S_ib at h
  split at h
  · exact (ib_case0 _).trans h
  · simp [T.run_fail] at h

def C_ib : FunT := fun args σ => match args, σ with
  | [.dat (.slc .one ls), (.fn (.func 61) [] [.ptr .one 0 0 []])], ([⟨.one, false, false, .dat (.fn (.func 54) [] [])⟩]) => .chk (ib_okL  ls) (.leaf ([.dat (.int .i64 (ib_idx  ls))], ([⟨.one, false, false, .dat (.fn (.func 54) [] [])⟩])))
  | _, _ => .fail
theorem cib_ok : FunOk Try.prog 64 (FunT.run C_ib) := ib_ok.of (by
  intro args σ r h
  unfold C_ib at h
  split at h
  · rename_i ls 
    obtain ⟨hc, h'⟩ := T.chk_some h
    rw [← T.leaf_some h']
    unfold S_ib ib_idx
    simp only [hc, decide_true, Bool.and_true, T.run_chk, T.run_leaf, cond_true]
    all_goals (cases ls.any ((fun d => nsign_v0 (D.getI d))) <;> rfl)
  · simp [T.run_fail] at h)

abbrev SpA : Specs := [(64, C_ib)]
theorem SpA_ok : SpecsOk Try.prog SpA := .cons cib_ok (.nil _)
def cfb_v0 (ls : List D) : Bool := decide (ib_idx ls ≥ (0 : Int))
def C_cfb : FunT := fun args σ => match args, σ with
  | [AV.dat (D.slc Sh.one ls), AV.fn (Fn.func 61) [] [AV.ptr Sh.one 0 0 []]], [{ sh := Sh.one, dyn := false, frz := false, v := AV.dat (D.fn (Fn.func 54) [] []) }] => .chk (ib_okL ls) (.leaf ([AV.dat (D.bool (cfb_v0 ls))], [{ sh := Sh.one, dyn := false, frz := false, v := AV.dat (D.fn (Fn.func 54) [] []) }]))
  | _, _ => .fail
theorem cfb_raw0 (ls : List D) : runF (envOf tab SpA [] [] []) true Try.f62 [.dat (.slc .one ls), .fn (.func 61) [] [.ptr .one 0 0 []]] nstB =
  (bif ib_okL ls then some ([AV.dat (D.bool (decide (ib_idx ls ≥ (0 : Int))))], [{ sh := Sh.one, dyn := false, frz := false, v := AV.dat (D.fn (Fn.func 54) [] []) }]) else none) := by kernel_rfl
theorem cfb_case0 (ls : List D) : runF (envOf tab SpA [] [] []) true Try.f62 [.dat (.slc .one ls), .fn (.func 61) [] [.ptr .one 0 0 []]] nstB = FunT.run C_cfb [.dat (.slc .one ls), .fn (.func 61) [] [.ptr .one 0 0 []]] nstB := (cfb_raw0 ls).trans (by
  show _ = (cond (ib_okL ls) (some (([AV.dat (D.bool (decide (ib_idx ls ≥ (0 : Int))))], [{ sh := Sh.one, dyn := false, frz := false, v := AV.dat (D.fn (Fn.func 54) [] []) }]) : Res)) none)
  generalize (ib_okL ls) = z0
  cases z0 with
  | true =>
   rfl
  | false =>
   rfl
  )
theorem ccfb_ok : FunOk Try.prog 62 (FunT.run C_cfb) := by
  refine fun_ok (E := envOf tab SpA [] [] []) (fz := true) (fn := Try.f62) (envOf_ok progOk SpA_ok) (by kernel_rfl) (by kernel_rfl) (loops_none (by kernel_rfl)) ?_
  intro args σ r h
  unfold C_cfb at h
  split at h
  · exact (cfb_case0 _).trans h
  · simp [T.run_fail] at h

def nall_v0 (s : ByteArray) : Bool := !cfb_v0 (seg (bytesD s) 0 (List.length (bytesD s)))
def nall_pre (s : ByteArray) : Bool := decide (ByteArray.size s ≤ 35184372088832) && (fits Sh.one (bytesD s) && (Nat.beq (List.length (bytesD s)) (List.length (bytesD s)) && ib_okL (seg (bytesD s) 0 (List.length (bytesD s)))))
def C_nall : FunT := fun args σ => match args, σ with
  | [AV.dat (D.str s), AV.dat (D.fn (Fn.func 54) [] [])], [] => .chk ((nall_pre s)) (.leaf ([AV.dat (D.bool (nall_v0 s))], []))
  | _, _ => .fail
theorem nall_raw0 (s : ByteArray) : runF (envOf tab [(62, C_cfb)] [] [] []) true Try.f53 [.dat (.str s), .dat (.fn (.func 54) [] [])] [] =
  (bif decide (ByteArray.size s ≤ 35184372088832) then 
   (bif fits Sh.one (bytesD s) then 
    (bif Nat.beq (List.length (bytesD s)) (List.length (bytesD s)) then 
     (bif ib_okL (seg (bytesD s) 0 (List.length (bytesD s))) then some ([AV.dat (D.bool !cfb_v0 (seg (bytesD s) 0 (List.length (bytesD s))))], []) else none) else none) else none) else none) := by kernel_rfl
theorem nall_case0 (s : ByteArray) : runF (envOf tab [(62, C_cfb)] [] [] []) true Try.f53 [.dat (.str s), .dat (.fn (.func 54) [] [])] [] = FunT.run C_nall [.dat (.str s), .dat (.fn (.func 54) [] [])] [] := (nall_raw0 s).trans (by
  show _ = (cond (decide (ByteArray.size s ≤ 35184372088832) && (fits Sh.one (bytesD s) && (Nat.beq (List.length (bytesD s)) (List.length (bytesD s)) && ib_okL (seg (bytesD s) 0 (List.length (bytesD s)))))) (some (([AV.dat (D.bool !cfb_v0 (seg (bytesD s) 0 (List.length (bytesD s))))], []) : Res)) none)
  generalize (decide (ByteArray.size s ≤ 35184372088832)) = z0
  cases z0 with
  | true =>
   generalize (fits Sh.one (bytesD s)) = z1
   cases z1 with
   | true =>
    generalize (Nat.beq (List.length (bytesD s)) (List.length (bytesD s))) = z2
    cases z2 with
    | true =>
     generalize (ib_okL (seg (bytesD s) 0 (List.length (bytesD s)))) = z3
     cases z3 with
     | true =>
      rfl
     | false =>
      rfl
    | false =>
     rfl
   | false =>
    rfl
  | false =>
   rfl
  )
theorem cnall_ok : FunOk Try.prog 53 (FunT.run C_nall) := by
  refine fun_ok (E := envOf tab [(62, C_cfb)] [] [] []) (fz := true) (fn := Try.f53) (envOf_ok progOk (.cons ccfb_ok (.nil _))) (by kernel_rfl) (by kernel_rfl) (loops_none (by kernel_rfl)) ?_
  intro args σ r h
  unfold C_nall at h
  split at h
  · exact (nall_case0 _).trans h
  · simp [T.run_fail] at h

def nright_v0 (s : ByteArray) : Bool := !decide ((↑(ByteArray.size s) : Int) < (1 : Int)) && (!decide ((12 : Int) < (↑(ByteArray.size s) : Int)) && (small_v0 (↑(UInt8.toNat (strAt s 0)) : Int) && nall_v0 s))
def nright_pre (s : ByteArray) : Bool := decide ((↑(ByteArray.size s) : Int) < (1 : Int)) || (decide ((12 : Int) < (↑(ByteArray.size s) : Int)) || decide ((0 : Nat) < List.length (Array.toList (ByteArray.data s))) && (!small_v0 (↑(UInt8.toNat (strAt s 0)) : Int) || nall_pre s))
def C_nright : FunT := fun args σ => match args, σ with
  | [AV.dat (D.str s)], [] => .chk ((nright_pre s)) (.leaf ([AV.dat (D.bool (nright_v0 s))], []))
  | _, _ => .fail
theorem nright_raw0 (s : ByteArray) : runF (envOf tab [(53, C_nall), (52, C_small)] [] [] []) true Try.f36 [.dat (.str s)] [] =
  (bif decide ((↑(ByteArray.size s) : Int) < (1 : Int)) then some ([AV.dat (D.bool false)], []) else 
   (bif decide ((↑(ByteArray.size s) : Int) > (12 : Int)) then some ([AV.dat (D.bool false)], []) else 
    (bif decide ((0 : Nat) < List.length (Array.toList (ByteArray.data s))) then 
     (bif !small_v0 (↑(UInt8.toNat (strAt s 0)) : Int) then some ([AV.dat (D.bool false)], []) else 
      (bif nall_pre s then some ([AV.dat (D.bool (nall_v0 s))], []) else none)) else none))) := by kernel_rfl
theorem nright_case0 (s : ByteArray) : runF (envOf tab [(53, C_nall), (52, C_small)] [] [] []) true Try.f36 [.dat (.str s)] [] = FunT.run C_nright [.dat (.str s)] [] := (nright_raw0 s).trans (by
  show _ = (cond (decide ((↑(ByteArray.size s) : Int) < (1 : Int)) || (decide ((12 : Int) < (↑(ByteArray.size s) : Int)) || decide ((0 : Nat) < List.length (Array.toList (ByteArray.data s))) && (!small_v0 (↑(UInt8.toNat (strAt s 0)) : Int) || nall_pre s))) (some (([AV.dat (D.bool (!decide ((↑(ByteArray.size s) : Int) < (1 : Int)) && (!decide ((12 : Int) < (↑(ByteArray.size s) : Int)) && (small_v0 (↑(UInt8.toNat (strAt s 0)) : Int) && nall_v0 s))))], []) : Res)) none)
  generalize (decide ((↑(ByteArray.size s) : Int) < (1 : Int))) = z0
  cases z0 with
  | true =>
   rfl
  | false =>
   generalize (decide ((12 : Int) < (↑(ByteArray.size s) : Int))) = z1
   cases z1 with
   | true =>
    rfl
   | false =>
    generalize (decide ((0 : Nat) < List.length (Array.toList (ByteArray.data s)))) = z2
    cases z2 with
    | true =>
     generalize (small_v0 (↑(UInt8.toNat (strAt s 0)) : Int)) = z3
     cases z3 with
     | true =>
      generalize (nall_pre s) = z4
      cases z4 with
      | true =>
       rfl
      | false =>
       rfl
     | false =>
      rfl
    | false =>
     rfl
  )
theorem cnright_ok : FunOk Try.prog 36 (FunT.run C_nright) := by
  refine fun_ok (E := envOf tab [(53, C_nall), (52, C_small)] [] [] []) (fz := true) (fn := Try.f36) (envOf_ok progOk (.cons cnall_ok (.cons csmall_ok (.nil _)))) (by kernel_rfl) (by kernel_rfl) (loops_none (by kernel_rfl)) ?_
  intro args σ r h
  unfold C_nright at h
  split at h
  · exact (nright_case0 _).trans h
  · simp [T.run_fail] at h


def rr_fr (σ : Store) (s : ByteArray) : Int → Frame' := fun i => mkF 47 [(0, .dat (.str s)), (3, .dat (.int .i64 i))]
def rr_st (σ : Store) (s : ByteArray) : Int → Store := fun _ => σ
def rr_step (σ : Store) (s : ByteArray) : Int → T (Int ⊕ LOut) := fun i => 
  .chk (!decide (i < (↑(ByteArray.size s) : Int)) || decide ((0 : Int) ≤ i) && decide (Int.toNat i < List.length (Array.toList (ByteArray.data s)))) (
   .br (!decide (i < (↑(ByteArray.size s) : Int))) (.leaf (.inr ((some 0), mkF 47 [], σ))) (
    .br (decide (i < (↑(ByteArray.size s) : Int)) && bif decide ((97 : Int) ≤ (↑(UInt8.toNat (strAt s (Int.toNat i))) : Int)) then !decide ((↑(UInt8.toNat (strAt s (Int.toNat i))) : Int) ≤ (122 : Int)) && (i == (0 : Int) || (decide ((↑(UInt8.toNat (strAt s (Int.toNat i))) : Int) < (48 : Int)) || decide ((57 : Int) < (↑(UInt8.toNat (strAt s (Int.toNat i))) : Int)))) else i == (0 : Int) || (decide ((↑(UInt8.toNat (strAt s (Int.toNat i))) : Int) < (48 : Int)) || decide ((57 : Int) < (↑(UInt8.toNat (strAt s (Int.toNat i))) : Int)))) (.leaf (.inr (none, mkF 47 [(2, AV.dat (D.bool false))], σ))) (.leaf (.inl (IntKind.wrap IntKind.i64 (i + (1 : Int)))))))
theorem rr_round (lp : Loops) (σ : Store) (s : ByteArray) (i : Int) (K : Kt) : oneRound (envOf tab [] [] lp []) Try.f41 0 (σ.length) (mkF 47 [(0, .dat (.str s)), (3, .dat (.int .i64 i))]) (σ) K =
  (bif decide (i < (↑(ByteArray.size s) : Int)) then 
   (bif decide ((0 : Int) ≤ i) then 
    (bif decide (Int.toNat i < List.length (Array.toList (ByteArray.data s))) then 
     (bif decide ((↑(UInt8.toNat (strAt s (Int.toNat i))) : Int) ≥ (97 : Int)) then 
      (bif decide ((0 : Int) ≤ i) then 
       (bif decide (Int.toNat i < List.length (Array.toList (ByteArray.data s))) then 
        (bif !decide ((↑(UInt8.toNat (strAt s (Int.toNat i))) : Int) ≤ (122 : Int)) then 
         (bif i == (0 : Int) then K (Exit.ret) (mkF 47 [(2, AV.dat (D.bool false))]) (σ) else 
          (bif decide ((0 : Int) ≤ i) then 
           (bif decide (Int.toNat i < List.length (Array.toList (ByteArray.data s))) then 
            (bif decide ((↑(UInt8.toNat (strAt s (Int.toNat i))) : Int) < (48 : Int)) then K (Exit.ret) (mkF 47 [(2, AV.dat (D.bool false))]) (σ) else 
             (bif decide ((0 : Int) ≤ i) then 
              (bif decide (Int.toNat i < List.length (Array.toList (ByteArray.data s))) then 
               (bif decide ((↑(UInt8.toNat (strAt s (Int.toNat i))) : Int) > (57 : Int)) then K (Exit.ret) (mkF 47 [(2, AV.dat (D.bool false))]) (σ) else K (Exit.normal) (mkF 47 [(0, AV.dat (D.str s)), (3, AV.dat (D.int IntKind.i64 (IntKind.wrap IntKind.i64 (i + (1 : Int))))), (17, AV.dat (D.int IntKind.i64 i)), (18, AV.dat (D.int IntKind.i64 (IntKind.wrap IntKind.i64 (i + (1 : Int)))))]) (σ)) else none) else none)) else none) else none)) else K (Exit.normal) (mkF 47 [(0, AV.dat (D.str s)), (3, AV.dat (D.int IntKind.i64 (IntKind.wrap IntKind.i64 (i + (1 : Int))))), (17, AV.dat (D.int IntKind.i64 i)), (18, AV.dat (D.int IntKind.i64 (IntKind.wrap IntKind.i64 (i + (1 : Int)))))]) (σ)) else none) else none) else 
      (bif i == (0 : Int) then K (Exit.ret) (mkF 47 [(2, AV.dat (D.bool false))]) (σ) else 
       (bif decide ((0 : Int) ≤ i) then 
        (bif decide (Int.toNat i < List.length (Array.toList (ByteArray.data s))) then 
         (bif decide ((↑(UInt8.toNat (strAt s (Int.toNat i))) : Int) < (48 : Int)) then K (Exit.ret) (mkF 47 [(2, AV.dat (D.bool false))]) (σ) else 
          (bif decide ((0 : Int) ≤ i) then 
           (bif decide (Int.toNat i < List.length (Array.toList (ByteArray.data s))) then 
            (bif decide ((↑(UInt8.toNat (strAt s (Int.toNat i))) : Int) > (57 : Int)) then K (Exit.ret) (mkF 47 [(2, AV.dat (D.bool false))]) (σ) else K (Exit.normal) (mkF 47 [(0, AV.dat (D.str s)), (3, AV.dat (D.int IntKind.i64 (IntKind.wrap IntKind.i64 (i + (1 : Int))))), (17, AV.dat (D.int IntKind.i64 i)), (18, AV.dat (D.int IntKind.i64 (IntKind.wrap IntKind.i64 (i + (1 : Int)))))]) (σ)) else none) else none)) else none) else none))) else none) else none) else K (Exit.exit 0) (mkF 47 []) (σ)) := by kernel_rfl
theorem rr_hr (lp : Loops) (σ : Store) (s : ByteArray) : ∀ (sA : Int) (K : Kt) (N : Int → Option Res), (∀ sB fr' σ', cleanF (liveAt Try.f41 0) 0 fr' = rr_fr σ s sB → trim (σ.length) (rr_fr σ s sB) σ' = rr_st σ s sB → K .normal fr' σ' = N sB) →
    oneRound (envOf tab [] [] lp []) Try.f41 0 (σ.length) (rr_fr σ s sA) (rr_st σ s sA) K = (rr_step σ s sA).k (LK K N) := by
  intro i K N hN
  refine (rr_round lp σ s i K).trans ?_
  show _ = T.k ((
  .chk (!decide (i < (↑(ByteArray.size s) : Int)) || decide ((0 : Int) ≤ i) && decide (Int.toNat i < List.length (Array.toList (ByteArray.data s)))) (
   .br (!decide (i < (↑(ByteArray.size s) : Int))) (.leaf (.inr ((some 0), mkF 47 [], σ))) (
    .br (decide (i < (↑(ByteArray.size s) : Int)) && bif decide ((97 : Int) ≤ (↑(UInt8.toNat (strAt s (Int.toNat i))) : Int)) then !decide ((↑(UInt8.toNat (strAt s (Int.toNat i))) : Int) ≤ (122 : Int)) && (i == (0 : Int) || (decide ((↑(UInt8.toNat (strAt s (Int.toNat i))) : Int) < (48 : Int)) || decide ((57 : Int) < (↑(UInt8.toNat (strAt s (Int.toNat i))) : Int)))) else i == (0 : Int) || (decide ((↑(UInt8.toNat (strAt s (Int.toNat i))) : Int) < (48 : Int)) || decide ((57 : Int) < (↑(UInt8.toNat (strAt s (Int.toNat i))) : Int)))) (.leaf (.inr (none, mkF 47 [(2, AV.dat (D.bool false))], σ))) (.leaf (.inl (IntKind.wrap IntKind.i64 (i + (1 : Int)))))))) : T (Int ⊕ LOut)) (LK K N)
  generalize (decide (i < (↑(ByteArray.size s) : Int))) = z0
  cases z0 with
  | true =>
   generalize (decide ((0 : Int) ≤ i)) = z1
   cases z1 with
   | true =>
    generalize (decide (Int.toNat i < List.length (Array.toList (ByteArray.data s)))) = z2
    cases z2 with
    | true =>
     generalize (decide ((97 : Int) ≤ (↑(UInt8.toNat (strAt s (Int.toNat i))) : Int))) = z3
     cases z3 with
     | true =>
      generalize (decide ((↑(UInt8.toNat (strAt s (Int.toNat i))) : Int) ≤ (122 : Int))) = z4
      cases z4 with
      | true =>
       exact hN _ _ _ (by kernel_rfl) (trim_self (Nat.le_refl _))
      | false =>
       generalize (i == (0 : Int)) = z5
       cases z5 with
       | true =>
        rfl
       | false =>
        generalize (decide ((↑(UInt8.toNat (strAt s (Int.toNat i))) : Int) < (48 : Int))) = z6
        cases z6 with
        | true =>
         rfl
        | false =>
         generalize (decide ((57 : Int) < (↑(UInt8.toNat (strAt s (Int.toNat i))) : Int))) = z7
         cases z7 with
         | true =>
          rfl
         | false =>
          exact hN _ _ _ (by kernel_rfl) (trim_self (Nat.le_refl _))
     | false =>
      generalize (i == (0 : Int)) = z4
      cases z4 with
      | true =>
       rfl
      | false =>
       generalize (decide ((↑(UInt8.toNat (strAt s (Int.toNat i))) : Int) < (48 : Int))) = z5
       cases z5 with
       | true =>
        rfl
       | false =>
        generalize (decide ((57 : Int) < (↑(UInt8.toNat (strAt s (Int.toNat i))) : Int))) = z6
        cases z6 with
        | true =>
         rfl
        | false =>
         exact hN _ _ _ (by kernel_rfl) (trim_self (Nat.le_refl _))
    | false =>
     rfl
   | false =>
    rfl
  | false =>
   rfl
theorem rr_enter (σ : Store) (s : ByteArray) (i : Int) (fr : Frame') (hl : Nat.beq fr.length 47 = true) (g0 : fr.getD 0 .undef = AV.dat (D.str s)) (g3 : fr.getD 3 .undef = AV.dat (D.int IntKind.i64 i)) : cleanF (liveAt Try.f41 0) 0 fr = rr_fr σ s i := by
  have e : liveAt Try.f41 0 = [0, 3] := by kernel_rfl
  rw [clean_mk (Nat.eq_of_beq_eq_true hl), e]
  show mkF 47 [(0, fr.getD 0 .undef), (3, fr.getD 3 .undef)] = _
  rw [g0, g3]
  kernel_rfl


/-! The document's names. -/
def chI (s : ByteArray) (i : Nat) : Int := ((UInt8.toNat (strAt s i) : Nat) : Int)
def badI (s : ByteArray) (i : Nat) : Bool := !(small_v0 (chI s i) || (!decide (i = 0) && digit_v0 (chI s i)))
theorem rr_bad (s : ByteArray) (i : Nat) : (bif decide (chI s i ≥ (97 : Int)) then !decide (chI s i ≤ (122 : Int)) && ((i : Int) == (0 : Int) || (decide (chI s i < (48 : Int)) || decide (chI s i > (57 : Int)))) else (i : Int) == (0 : Int) || (decide (chI s i < (48 : Int)) || decide (chI s i > (57 : Int)))) = badI s i := by
  have e1 : ((i : Int) == (0 : Int)) = decide (i = 0) := by
    by_cases h : i = 0
    · subst h; rfl
    · rw [decide_eq_false h, beq_eq_false_iff_ne]; omega
  have e2 : decide (chI s i < 48) = !decide (chI s i ≥ 48) := dec_lt _ _
  have e3 : decide (chI s i > 57) = !decide (chI s i ≤ 57) := dec_gt _ _
  unfold badI small_v0 digit_v0
  rw [e1, e2, e3]
  cases decide (chI s i ≥ 97) <;> cases decide (chI s i ≤ 122) <;> cases decide (i = 0) <;> cases decide (chI s i ≥ 48) <;> cases decide (chI s i ≤ 57) <;> rfl
theorem rr_closed (σ : Store) (s : ByteArray) (hc : decide (s.size ≤ 1099511627776) = true) :
    ∃ m, (iterT (rr_step σ s) m 0).run = T.run (.br ((List.range s.size).any (badI s)) (.leaf (none, mkF 47 [(2, .dat (.bool false))], σ)) (.leaf (some 0, mkF 47 [], σ))) := by
  have hs := of_decide_eq_true hc
  obtain ⟨m, hm⟩ := iter_any (step := rr_step σ s) (n := s.size) (p := badI s) (o := (none, mkF 47 [(2, .dat (.bool false))], σ)) (o' := (some 0, mkF 47 [], σ))
    (fun i hi => by
      unfold rr_step
      have hl : i < s.data.toList.length := hi
      have hb := rr_bad s i
      unfold chI at hb
      simp only [decide_eq_true (show (i : Int) < (s.size : Int) by omega), decide_eq_true (show (0 : Int) ≤ (i : Int) by omega), Int.toNat_natCast, decide_eq_true hl, wrap_succ (show i < 2 ^ 62 by omega), hb, Bool.not_true, Bool.false_or, Bool.true_and, T.run_chk, T.run_br, T.run_leaf, cond_true, cond_false, bif_some])
    (by
      unfold rr_step
      rw [decide_eq_false (show ¬ (s.size : Int) < (s.size : Int) by omega)]
      rfl)
  refine ⟨m, hm.trans ?_⟩
  cases (List.range s.size).any (badI s) <;> rfl

def L_rr : Frame' → Store → T (Exit × Frame' × Store) := fun fr σ => match fr.getD 0 .undef, fr.getD 3 .undef with
  | AV.dat (D.str s), AV.dat (D.int IntKind.i64 0) => .chk (Nat.beq fr.length 47 && (decide (s.size ≤ 1099511627776))) (T.bind (.br ((List.range s.size).any (badI s)) (.leaf (none, mkF 47 [(2, .dat (.bool false))], σ)) (.leaf (some 0, mkF 47 [], σ))) fun o => .leaf (outEx o.1, o.2.1, o.2.2))
  | _, _ => .fail
theorem rr_sem (lp : Loops) : ∀ fr σ p, (L_rr fr σ).run = some p → ∀ (K : Kt) r, K p.1 p.2.1 p.2.2 = some r → ∃ n, loopRun (envOf tab [] [] lp []) Try.f41 0 σ.length n (cleanF (liveAt Try.f41 0) 0 fr) σ K = some r := by
  intro fr σ p h K r hK
  unfold L_rr at h
  split at h
  · rename_i s g0 g3
    obtain ⟨hc, h'⟩ := T.chk_some h
    rw [Bool.and_eq_true] at hc
    obtain ⟨hl, hc⟩ := hc
    obtain ⟨o, ho, h'⟩ := T.bind_some h'
    have hp := T.leaf_some h'
    subst hp
    obtain ⟨nF, hn⟩ : ∃ nF, (iterT (rr_step σ s) nF (0)).run = T.run (.br ((List.range s.size).any (badI s)) (.leaf (none, mkF 47 [(2, .dat (.bool false))], σ)) (.leaf (some 0, mkF 47 [], σ))) := rr_closed σ s hc
    rw [ho] at hn
    refine ⟨nF, ?_⟩
    have he : cleanF (liveAt Try.f41 0) 0 fr = rr_fr σ s (0) := rr_enter σ s _ fr hl g0 g3
    refine (iter_ok (base := σ.length) (rr_hr lp σ s) K nF (0) _ _ (by rw [clean_clean]; exact he) (trim_self (Nat.le_refl _))).trans ?_
    rw [T.k_run hn]
    exact hK
  · simp [T.run_fail] at h
theorem rr_loopOk (lp : Loops) (hk : Loops.get lp 4 = some L_rr) : LoopOk (envOf tab [] [] lp []) (loopAt Try.f41 0).1 (loopAt Try.f41 0).2 := loop_ok (L := L_rr) hk (rr_sem lp)


def rright_v0 (s : ByteArray) : Bool := !(↑(ByteArray.size s) : Int) == (0 : Int) && (!decide ((12 : Int) < (↑(ByteArray.size s) : Int)) && !List.any (List.range (ByteArray.size s)) (badI s))
def rright_pre (s : ByteArray) : Bool := (↑(ByteArray.size s) : Int) == (0 : Int) || (decide ((12 : Int) < (↑(ByteArray.size s) : Int)) || decide (ByteArray.size s ≤ 1099511627776))
def C_rright : FunT := fun args σ => match args, σ with
  | [AV.dat (D.str s)], [] => .chk ((rright_pre s)) (.leaf ([AV.dat (D.bool (rright_v0 s))], []))
  | _, _ => .fail
theorem rright_raw0 (s : ByteArray) : runF (envOf tab [] [] [(4, L_rr)] []) true Try.f41 [.dat (.str s)] [] =
  (bif (↑(ByteArray.size s) : Int) == (0 : Int) then some ([AV.dat (D.bool false)], []) else 
   (bif decide ((↑(ByteArray.size s) : Int) > (12 : Int)) then some ([AV.dat (D.bool false)], []) else 
    (bif decide (ByteArray.size s ≤ 1099511627776) then 
     (bif List.any (List.range (ByteArray.size s)) (badI s) then some ([AV.dat (D.bool false)], []) else some ([AV.dat (D.bool true)], [])) else none))) := by kernel_rfl
theorem rright_case0 (s : ByteArray) : runF (envOf tab [] [] [(4, L_rr)] []) true Try.f41 [.dat (.str s)] [] = FunT.run C_rright [.dat (.str s)] [] := (rright_raw0 s).trans (by
  show _ = (cond ((↑(ByteArray.size s) : Int) == (0 : Int) || (decide ((12 : Int) < (↑(ByteArray.size s) : Int)) || decide (ByteArray.size s ≤ 1099511627776))) (some (([AV.dat (D.bool (!(↑(ByteArray.size s) : Int) == (0 : Int) && (!decide ((12 : Int) < (↑(ByteArray.size s) : Int)) && !List.any (List.range (ByteArray.size s)) (badI s))))], []) : Res)) none)
  generalize ((↑(ByteArray.size s) : Int) == (0 : Int)) = z0
  cases z0 with
  | true =>
   rfl
  | false =>
   generalize (decide ((12 : Int) < (↑(ByteArray.size s) : Int))) = z1
   cases z1 with
   | true =>
    rfl
   | false =>
    generalize (decide (ByteArray.size s ≤ 1099511627776)) = z2
    cases z2 with
    | true =>
     generalize (List.any (List.range (ByteArray.size s)) (badI s)) = z3
     cases z3 with
     | true =>
      rfl
     | false =>
      rfl
    | false =>
     rfl
  )
theorem crright_ok : FunOk Try.prog 41 (FunT.run C_rright) := by
  refine fun_ok (E := envOf tab [] [] [(4, L_rr)] []) (fz := true) (fn := Try.f41) (envOf_ok progOk (.nil _)) (by kernel_rfl) (by kernel_rfl) (loops_one (by kernel_rfl) (rr_loopOk _ rfl)) ?_
  intro args σ r h
  unfold C_rright at h
  split at h
  · exact (rright_case0 _).trans h
  · simp [T.run_fail] at h


/-! The two are one. -/
theorem byte_get (s : ByteArray) {i : Nat} (h : i < s.size) : nthD (bytesD s) i = .int .u8 (chI s i) := by
  have hl : i < s.data.toList.length := h
  unfold nthD bytesD chI strAt
  rw [List.getD_eq_getElem?_getD, List.getElem?_map, List.getD_eq_getElem?_getD, List.getElem?_eq_getElem hl]
  rfl
theorem bytes_okE (s : ByteArray) : (bytesD s).all (okE (.int .u8)) = true := by
  rw [List.all_eq_true]
  intro d hd
  unfold bytesD at hd
  obtain ⟨b, _, rfl⟩ := List.mem_map.1 hd
  rfl
theorem cfb_any (ls : List D) : cfb_v0 ls = ls.any fun d => nsign_v0 (D.getI d) := by
  unfold cfb_v0 ib_idx
  cases h : ls.any fun d => nsign_v0 (D.getI d) with
  | true => rw [cond_true]; exact decide_eq_true (by omega)
  | false => rfl
def nameOk (s : ByteArray) : Bool := rright_v0 s
theorem names_one (s : ByteArray) : nright_v0 s = rright_v0 s := by
  unfold nright_v0 rright_v0 nall_v0
  rw [seg_full, cfb_any]
  by_cases h0 : s.size = 0
  · rw [h0]; rfl
  · have e1 : decide ((s.size : Int) < 1) = false := decide_eq_false (by omega)
    have e2 : ((s.size : Int) == 0) = false := beq_eq_false_iff_ne.2 (by omega)
    rw [e1, e2]
    cases decide ((s.size : Int) > 12) with
    | true => rfl
    | false =>
      show (small_v0 (chI s 0) && !List.any (bytesD s) fun d => nsign_v0 (D.getI d)) = !List.any (List.range s.size) (badI s)
      refine bool_ext ?_
      rw [Bool.and_eq_true, Bool.not_eq_true', Bool.not_eq_true', List.any_eq_false, List.any_eq_false]
      constructor
      · rintro ⟨h1, h2⟩ i hi
        have hi' : i < s.size := by simpa using hi
        have h3 := h2 (nthD (bytesD s) i) (nthD_mem (by rw [bytesD_length]; exact hi'))
        rw [byte_get s hi'] at h3
        have h3 : ¬ (!(small_v0 (chI s i) || digit_v0 (chI s i))) = true := h3
        unfold badI
        by_cases hz : i = 0
        · subst hz; rw [h1]; simp
        · rw [decide_eq_false hz]
          intro h4; exact h3 h4
      · intro h
        constructor
        · have := h 0 (by simp; omega)
          unfold badI at this
          cases hs : small_v0 (chI s 0) with
          | true => rfl
          | false => rw [hs] at this; exact absurd rfl this
        · intro d hd
          obtain ⟨i, hi, rfl⟩ := List.getElem_of_mem hd
          have hi' : i < s.size := by rwa [bytesD_length] at hi
          have e : (bytesD s)[i] = nthD (bytesD s) i := by unfold nthD; rw [List.getD_eq_getElem?_getD, List.getElem?_eq_getElem hi]; rfl
          rw [e, byte_get s hi']
          have := h i (by simpa using hi')
          unfold badI at this
          intro h4
          have h4 : (!(small_v0 (chI s i) || digit_v0 (chI s i))) = true := h4
          apply this
          cases h5 : small_v0 (chI s i) <;> cases h6 : digit_v0 (chI s i) <;> rw [h5, h6] at h4 <;> simp_all
theorem names_pre {s : ByteArray} (h : s.size ≤ 1048576) : nright_pre s = true ∧ rright_pre s = true := by
  have e1 : nall_pre s = true := by
    unfold nall_pre ib_okL
    rw [decide_eq_true (show s.size ≤ 35184372088832 by omega), fits_bytes, beq_self, seg_full, bytes_okE, bytesD_length, decide_eq_true (show s.size ≤ 1099511627776 by omega)]
    rfl
  unfold nright_pre rright_pre
  rw [e1, decide_eq_true (show s.size ≤ 1099511627776 by omega)]
  refine ⟨?_, by simp⟩
  by_cases h0 : (s.size : Int) < 1
  · rw [decide_eq_true h0]; rfl
  · have : 0 < s.data.toList.length := show 0 < s.size by omega
    rw [decide_eq_true this]; simp

end Go.Proofs.Ytnegedbjcjfndaa
