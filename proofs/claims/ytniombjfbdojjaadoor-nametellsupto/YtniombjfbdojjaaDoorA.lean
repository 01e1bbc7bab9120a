/- Seat 03: names and texts that may be. -/
import Derived.Test.YtniombjfbdojjaaDoorTab
import Derived.Test.YtniombjfbdojjaaDoorAx22
namespace Go.Proofs.YtniombjfbdojjaaDoor
open Go.AX
set_option maxRecDepth 100000
def small_v0 (n : Int) : Bool := decide (97 ≤ n) && decide (n ≤ 122)
def C_small : FunT := fun args σ => match args, σ with
  | [AV.dat (D.int IntKind.u8 n)], [] => .leaf ([AV.dat (D.bool (small_v0 n))], [])
  | _, _ => .fail
theorem small_raw0 (n : Int) : runF (envOf tab [] [] [] []) true Tryd.f17 [.dat (.int .u8 n)] [] =
  (bif decide (n ≥ 97) then some ([.dat (.bool (decide (n ≤ 122)))], []) else some ([.dat (.bool false)], [])) := by kernel_rfl
theorem small_case0 (n : Int) : runF (envOf tab [] [] [] []) true Tryd.f17 [.dat (.int .u8 n)] [] = FunT.run C_small [.dat (.int .u8 n)] [] := (small_raw0 n).trans (by
  show _ = (some (([.dat (.bool (decide (97 ≤ n) && decide (n ≤ 122)))], []) : Res))
  generalize (decide (97 ≤ n)) = z0
  cases z0 with
  | true =>
   rfl
  | false =>
   rfl
  )
theorem csmall_ok : FunOk Tryd.prog 17 (FunT.run C_small) := by
  refine fun_ok (E := envOf tab [] [] [] []) (fz := true) (fn := Tryd.f17) (envOf_ok progOk (.nil _)) (by kernel_rfl) (by kernel_rfl) (loops_none (by kernel_rfl)) ?_
  intro args σ r h
  unfold C_small at h
  split at h
  · exact (small_case0 _).trans h
  · simp [T.run_fail] at h
def digit_v0 (n : Int) : Bool := decide (48 ≤ n) && decide (n ≤ 57)
def C_digit : FunT := fun args σ => match args, σ with
  | [AV.dat (D.int IntKind.u8 n)], [] => .leaf ([AV.dat (D.bool (digit_v0 n))], [])
  | _, _ => .fail
theorem digit_raw0 (n : Int) : runF (envOf tab [] [] [] []) true Tryd.f20 [.dat (.int .u8 n)] [] =
  (bif decide (n ≥ 48) then some ([.dat (.bool (decide (n ≤ 57)))], []) else some ([.dat (.bool false)], [])) := by kernel_rfl
theorem digit_case0 (n : Int) : runF (envOf tab [] [] [] []) true Tryd.f20 [.dat (.int .u8 n)] [] = FunT.run C_digit [.dat (.int .u8 n)] [] := (digit_raw0 n).trans (by
  show _ = (some (([.dat (.bool (decide (48 ≤ n) && decide (n ≤ 57)))], []) : Res))
  generalize (decide (48 ≤ n)) = z0
  cases z0 with
  | true =>
   rfl
  | false =>
   rfl
  )
theorem cdigit_ok : FunOk Tryd.prog 20 (FunT.run C_digit) := by
  refine fun_ok (E := envOf tab [] [] [] []) (fz := true) (fn := Tryd.f20) (envOf_ok progOk (.nil _)) (by kernel_rfl) (by kernel_rfl) (loops_none (by kernel_rfl)) ?_
  intro args σ r h
  unfold C_digit at h
  split at h
  · exact (digit_case0 _).trans h
  · simp [T.run_fail] at h
def plain_v0 (n : Int) : Bool := decide (32 ≤ n) && decide (n ≤ 126)
def C_plain : FunT := fun args σ => match args, σ with
  | [AV.dat (D.int IntKind.u8 n)], [] => .leaf ([AV.dat (D.bool (plain_v0 n))], [])
  | _, _ => .fail
theorem plain_raw0 (n : Int) : runF (envOf tab [] [] [] []) true Tryd.f21 [.dat (.int .u8 n)] [] =
  (bif decide (n ≥ 32) then some ([.dat (.bool (decide (n ≤ 126)))], []) else some ([.dat (.bool false)], [])) := by kernel_rfl
theorem plain_case0 (n : Int) : runF (envOf tab [] [] [] []) true Tryd.f21 [.dat (.int .u8 n)] [] = FunT.run C_plain [.dat (.int .u8 n)] [] := (plain_raw0 n).trans (by
  show _ = (some (([.dat (.bool (decide (32 ≤ n) && decide (n ≤ 126)))], []) : Res))
  generalize (decide (32 ≤ n)) = z0
  cases z0 with
  | true =>
   rfl
  | false =>
   rfl
  )
theorem cplain_ok : FunOk Tryd.prog 21 (FunT.run C_plain) := by
  refine fun_ok (E := envOf tab [] [] [] []) (fz := true) (fn := Tryd.f21) (envOf_ok progOk (.nil _)) (by kernel_rfl) (by kernel_rfl) (loops_none (by kernel_rfl)) ?_
  intro args σ r h
  unfold C_plain at h
  split at h
  · exact (plain_case0 _).trans h
  · simp [T.run_fail] at h
def rmay_v0 (n : Int) : Bool := decide (32 ≤ n) && decide (n ≤ 126)
def C_rmay : FunT := fun args σ => match args, σ with
  | [AV.dat (D.int IntKind.u8 n)], [] => .leaf ([AV.dat (D.bool (rmay_v0 n))], [])
  | _, _ => .fail
theorem rmay_raw0 (n : Int) : runF (envOf tab [] [] [] []) true Tryd.f23 [.dat (.int .u8 n)] [] =
  (bif decide (n ≥ 32) then some ([.dat (.bool (decide (n ≤ 126)))], []) else some ([.dat (.bool false)], [])) := by kernel_rfl
theorem rmay_case0 (n : Int) : runF (envOf tab [] [] [] []) true Tryd.f23 [.dat (.int .u8 n)] [] = FunT.run C_rmay [.dat (.int .u8 n)] [] := (rmay_raw0 n).trans (by
  show _ = (some (([.dat (.bool (decide (32 ≤ n) && decide (n ≤ 126)))], []) : Res))
  generalize (decide (32 ≤ n)) = z0
  cases z0 with
  | true =>
   rfl
  | false =>
   rfl
  )
theorem crmay_ok : FunOk Tryd.prog 23 (FunT.run C_rmay) := by
  refine fun_ok (E := envOf tab [] [] [] []) (fz := true) (fn := Tryd.f23) (envOf_ok progOk (.nil _)) (by kernel_rfl) (by kernel_rfl) (loops_none (by kernel_rfl)) ?_
  intro args σ r h
  unfold C_rmay at h
  split at h
  · exact (rmay_case0 _).trans h
  · simp [T.run_fail] at h
def sign_v0 (n : Int) : Bool := small_v0 n || digit_v0 n
def C_sign : FunT := fun args σ => match args, σ with
  | [AV.dat (D.int IntKind.u8 n)], [] => .leaf ([AV.dat (D.bool (sign_v0 n))], [])
  | _, _ => .fail
theorem sign_raw0 (n : Int) : runF (envOf tab [(17, C_small), (20, C_digit)] [] [] []) true Tryd.f19 [.dat (.int .u8 n)] [] =
  (bif small_v0 n then some ([.dat (.bool true)], []) else some ([.dat (.bool (digit_v0 n))], [])) := by kernel_rfl
theorem sign_case0 (n : Int) : runF (envOf tab [(17, C_small), (20, C_digit)] [] [] []) true Tryd.f19 [.dat (.int .u8 n)] [] = FunT.run C_sign [.dat (.int .u8 n)] [] := (sign_raw0 n).trans (by
  show _ = (some (([.dat (.bool (small_v0 n || digit_v0 n))], []) : Res))
  generalize (small_v0 n) = z0
  cases z0 with
  | true =>
   rfl
  | false =>
   rfl
  )
theorem csign_ok : FunOk Tryd.prog 19 (FunT.run C_sign) := by
  refine fun_ok (E := envOf tab [(17, C_small), (20, C_digit)] [] [] []) (fz := true) (fn := Tryd.f19) (envOf_ok progOk (.cons csmall_ok (.cons cdigit_ok (.nil _)))) (by kernel_rfl) (by kernel_rfl) (loops_none (by kernel_rfl)) ?_
  intro args σ r h
  unfold C_sign at h
  split at h
  · exact (sign_case0 _).trans h
  · simp [T.run_fail] at h
def nsign_v0 (n : Int) : Bool := !sign_v0 n
def C_nsign : FunT := fun args σ => match args, σ with
  | [AV.dat (D.int IntKind.u8 n), AV.ptr Sh.one 0 0 []], [{ sh := Sh.one, dyn := false, frz := false, v := AV.dat (D.fn (Fn.func 19) [] []) }] => .leaf ([AV.dat (D.bool (nsign_v0 n))], [{ sh := Sh.one, dyn := false, frz := false, v := AV.dat (D.fn (Fn.func 19) [] []) }])
  | _, _ => .fail
theorem nsign_raw0 (n : Int) : runF (envOf tab [(19, C_sign)] [] [] []) true Tryd.f26 [.dat (.int .u8 n), .ptr .one 0 0 []] [⟨.one, false, false, .dat (.fn (.func 19) [] [])⟩] =some ([.dat (.bool !sign_v0 n)], [{ sh := Sh.one, dyn := false, frz := false, v := .dat (.fn (Fn.func 19) [] []) }]) := by kernel_rfl
theorem nsign_case0 (n : Int) : runF (envOf tab [(19, C_sign)] [] [] []) true Tryd.f26 [.dat (.int .u8 n), .ptr .one 0 0 []] [⟨.one, false, false, .dat (.fn (.func 19) [] [])⟩] = FunT.run C_nsign [.dat (.int .u8 n), .ptr .one 0 0 []] [⟨.one, false, false, .dat (.fn (.func 19) [] [])⟩] := (nsign_raw0 n).trans (by
  show _ = (some (([.dat (.bool !sign_v0 n)], [{ sh := Sh.one, dyn := false, frz := false, v := .dat (.fn (Fn.func 19) [] []) }]) : Res))
  rfl
  )
theorem cnsign_ok : FunOk Tryd.prog 26 (FunT.run C_nsign) := by
  refine fun_ok (E := envOf tab [(19, C_sign)] [] [] []) (fz := true) (fn := Tryd.f26) (envOf_ok progOk (.cons csign_ok (.nil _))) (by kernel_rfl) (by kernel_rfl) (loops_none (by kernel_rfl)) ?_
  intro args σ r h
  unfold C_nsign at h
  split at h
  · exact (nsign_case0 _).trans h
  · simp [T.run_fail] at h
def nplain_v0 (n : Int) : Bool := !plain_v0 n
def C_nplain : FunT := fun args σ => match args, σ with
  | [AV.dat (D.int IntKind.u8 n), AV.ptr Sh.one 0 0 []], [{ sh := Sh.one, dyn := false, frz := false, v := AV.dat (D.fn (Fn.func 21) [] []) }] => .leaf ([AV.dat (D.bool (nplain_v0 n))], [{ sh := Sh.one, dyn := false, frz := false, v := AV.dat (D.fn (Fn.func 21) [] []) }])
  | _, _ => .fail
theorem nplain_raw0 (n : Int) : runF (envOf tab [(21, C_plain)] [] [] []) true Tryd.f26 [.dat (.int .u8 n), .ptr .one 0 0 []] [⟨.one, false, false, .dat (.fn (.func 21) [] [])⟩] =some ([.dat (.bool !plain_v0 n)], [{ sh := Sh.one, dyn := false, frz := false, v := .dat (.fn (Fn.func 21) [] []) }]) := by kernel_rfl
theorem nplain_case0 (n : Int) : runF (envOf tab [(21, C_plain)] [] [] []) true Tryd.f26 [.dat (.int .u8 n), .ptr .one 0 0 []] [⟨.one, false, false, .dat (.fn (.func 21) [] [])⟩] = FunT.run C_nplain [.dat (.int .u8 n), .ptr .one 0 0 []] [⟨.one, false, false, .dat (.fn (.func 21) [] [])⟩] := (nplain_raw0 n).trans (by
  show _ = (some (([.dat (.bool !plain_v0 n)], [{ sh := Sh.one, dyn := false, frz := false, v := .dat (.fn (Fn.func 21) [] []) }]) : Res))
  rfl
  )
theorem cnplain_ok : FunOk Tryd.prog 26 (FunT.run C_nplain) := by
  refine fun_ok (E := envOf tab [(21, C_plain)] [] [] []) (fz := true) (fn := Tryd.f26) (envOf_ok progOk (.cons cplain_ok (.nil _))) (by kernel_rfl) (by kernel_rfl) (loops_none (by kernel_rfl)) ?_
  intro args σ r h
  unfold C_nplain at h
  split at h
  · exact (nplain_case0 _).trans h
  · simp [T.run_fail] at h
abbrev nsB : Store := [⟨.one, false, false, .dat (.fn (.func 19) [] [])⟩]
abbrev npB : Store := [⟨.one, false, false, .dat (.fn (.func 21) [] [])⟩]
def ib_fr (ls : List D) (n : Int) : Int → Frame' := fun i => mkF 19 [(0, .dat (.slc .one ls)), (1, (.fn (.func 26) [] [.ptr .one 0 0 []])), (7, .dat (.int .i64 n)), (8, .dat (.int .i64 i))]
def ib_st (_ls : List D) (_n : Int) : Int → Store := fun _ => ([⟨.one, false, false, .dat (.fn (.func 19) [] [])⟩])
def ib_step (ls : List D) (n : Int) : Int → T (Int ⊕ LOut) := fun i =>
  .br (decide (i < n)) (
   .chk (decide (0 ≤ i)) (
    .chk (decide (Int.toNat i < List.length ls)) (
     .chk (okE (Ek.int IntKind.u8) (nthD ls (Int.toNat i))) (
      .br (nsign_v0 (D.getI (nthD ls (Int.toNat i)))) (.leaf (.inr (none, mkF 19 [(4, .dat (.int .i64 i))], [{ sh := Sh.one, dyn := false, frz := false, v := .dat (.fn (Fn.func 19) [] []) }]))) (.leaf (.inl (IntKind.wrap IntKind.i64 (i + 1)))))))) (.leaf (.inr ((some 0), mkF 19 [], [{ sh := Sh.one, dyn := false, frz := false, v := .dat (.fn (Fn.func 19) [] []) }])))
theorem ib_round (lp : Loops) (ls : List D) (n : Int) (i : Int) (K : Kt) : oneRound (envOf tab ([(26, C_nsign)]) [] lp []) Tryd.f35 0 (1) (mkF 19 [(0, .dat (.slc .one ls)), (1, (.fn (.func 26) [] [.ptr .one 0 0 []])), (7, .dat (.int .i64 n)), (8, .dat (.int .i64 i))]) (([⟨.one, false, false, .dat (.fn (.func 19) [] [])⟩])) K =
  (bif decide (i < n) then
   (bif decide (0 ≤ i) then
    (bif decide (Int.toNat i < List.length ls) then
     (bif okE (Ek.int IntKind.u8) (nthD ls (Int.toNat i)) then
      (bif nsign_v0 (D.getI (nthD ls (Int.toNat i))) then K (Exit.ret) (mkF 19 [(4, .dat (.int .i64 i))]) ([{ sh := Sh.one, dyn := false, frz := false, v := .dat (.fn (Fn.func 19) [] []) }]) else K (Exit.normal) (mkF 19 [(0, .dat (.slc Sh.one ls)), (1, AV.fn (Fn.func 26) [] [AV.ptr Sh.one 0 0 []]), (7, .dat (.int .i64 n)), (8, .dat (.int .i64 (IntKind.wrap IntKind.i64 (i + 1)))), (9, .dat (.bool (decide (i < n)))), (18, .dat (.int .i64 (IntKind.wrap IntKind.i64 (i + 1))))]) ([{ sh := Sh.one, dyn := false, frz := false, v := .dat (.fn (Fn.func 19) [] []) }])) else none) else none) else none) else K (Exit.exit 0) (mkF 19 []) ([{ sh := Sh.one, dyn := false, frz := false, v := .dat (.fn (Fn.func 19) [] []) }])) := by kernel_rfl
theorem ib_hr (lp : Loops) (ls : List D) (n : Int) : ∀ (sA : Int) (K : Kt) (N : Int → Option Res), (∀ sB fr' σ', cleanF (liveAt Tryd.f35 0) 0 fr' = ib_fr ls n sB → trim (1) (ib_fr ls n sB) σ' = ib_st ls n sB → K .normal fr' σ' = N sB) →
    oneRound (envOf tab ([(26, C_nsign)]) [] lp []) Tryd.f35 0 (1) (ib_fr ls n sA) (ib_st ls n sA) K = (ib_step ls n sA).k (LK K N) := by
  intro i K N hN
  exact (ib_round lp ls n i K).trans (cong2 (cong2 (cong2 (cong2 (cong2 rfl (hN (IntKind.wrap IntKind.i64 (i + 1)) _ _ (by kernel_rfl) (by kernel_rfl))) rfl) rfl) rfl) rfl)
theorem ib_enter (ls : List D) (n : Int) (i : Int) (fr : Frame') (hl : Nat.beq fr.length 19 = true) (g0 : fr.getD 0 .undef = .dat (.slc Sh.one ls)) (g1 : fr.getD 1 .undef = AV.fn (Fn.func 26) [] [AV.ptr Sh.one 0 0 []]) (g7 : fr.getD 7 .undef = .dat (.int .i64 n)) (g8 : fr.getD 8 .undef = .dat (.int .i64 i)) : cleanF (liveAt Tryd.f35 0) 0 fr = ib_fr ls n i := by
  have e : liveAt Tryd.f35 0 = [7, 1, 0, 8] := by kernel_rfl
  rw [clean_mk (Nat.eq_of_beq_eq_true hl), e]
  show mkF 19 [(7, fr.getD 7 .undef), (1, fr.getD 1 .undef), (0, fr.getD 0 .undef), (8, fr.getD 8 .undef)] = _
  rw [g7, g1, g0, g8]
  kernel_rfl
def ib_idx  (ls : List D) : Int := bif ls.any ((fun d => nsign_v0 (D.getI d))) then ((ls.findIdx ((fun d => nsign_v0 (D.getI d))) : Nat) : Int) else -1
def ib_okL  (ls : List D) : Bool := ls.all ((okE (.int .u8))) && decide (ls.length ≤ 1099511627776)
theorem ib_closed (ls : List D) (n : Int)  (hc : (decide (n = (ls.length : Int)) && ib_okL  ls) = true) :
    ∃ m, (iterT (ib_step ls n ) m 0).run = T.run (.br (ls.any ((fun d => nsign_v0 (D.getI d)))) (.leaf (none, mkF 19 [(4, .dat (.int .i64 (ls.findIdx ((fun d => nsign_v0 (D.getI d))) : Nat)))], ([⟨.one, false, false, .dat (.fn (.func 19) [] [])⟩]))) (.leaf (some 0, mkF 19 [], ([⟨.one, false, false, .dat (.fn (.func 19) [] [])⟩])))) := by
  unfold ib_okL at hc
  simp only [Bool.and_eq_true, decide_eq_true_eq] at hc
  obtain ⟨rfl, h1, h2⟩ := hc
  obtain ⟨m, hm⟩ := iter_find (step := ib_step ls ls.length ) (ls := ls) (p := (fun d => nsign_v0 (D.getI d))) (o := fun k => (none, mkF 19 [(4, .dat (.int .i64 (k : Int)))], ([⟨.one, false, false, .dat (.fn (.func 19) [] [])⟩]))) (o' := (some 0, mkF 19 [], ([⟨.one, false, false, .dat (.fn (.func 19) [] [])⟩])))
    (fun k hk => by
      have hq := List.all_eq_true.1 h1 _ (nthD_mem hk)
      try simp only [Bool.and_eq_true] at hq
      unfold ib_step
      simp only [decide_eq_true (show (k : Int) < (ls.length : Int) by omega), decide_eq_true (show (0 : Int) ≤ (k : Int) by omega), Int.toNat_natCast, decide_eq_true hk, hq, wrap_succ (show k < 2 ^ 62 by omega), T.run_br, T.run_chk, T.run_leaf, cond_true]
      exact bif_some (((fun d => nsign_v0 (D.getI d))) (nthD ls k)) _ _)
    (by
      unfold ib_step
      rw [decide_eq_false (show ¬ (ls.length : Int) < (ls.length : Int) by omega)]
      rfl)
  refine ⟨m, hm.trans ?_⟩
  cases ls.any ((fun d => nsign_v0 (D.getI d))) <;> rfl
def L_ib : Frame' → Store → T (Exit × Frame' × Store) := fun fr σ => match fr.getD 0 .undef, fr.getD 1 .undef, fr.getD 7 .undef, fr.getD 8 .undef, σ with
  | AV.dat (D.slc Sh.one ls), AV.fn (Fn.func 26) [] [AV.ptr Sh.one 0 0 []], AV.dat (D.int IntKind.i64 n), AV.dat (D.int IntKind.i64 0), [{ sh := Sh.one, dyn := false, frz := false, v := AV.dat (D.fn (Fn.func 19) [] []) }] => .chk (Nat.beq fr.length 19 && (decide (n = (ls.length : Int)) && ib_okL  ls)) (T.bind (.br (ls.any ((fun d => nsign_v0 (D.getI d)))) (.leaf (none, mkF 19 [(4, .dat (.int .i64 (ls.findIdx ((fun d => nsign_v0 (D.getI d))) : Nat)))], ([⟨.one, false, false, .dat (.fn (.func 19) [] [])⟩]))) (.leaf (some 0, mkF 19 [], ([⟨.one, false, false, .dat (.fn (.func 19) [] [])⟩])))) fun o => .leaf (outEx o.1, o.2.1, o.2.2))
  | _, _, _, _, _ => .fail
theorem ib_sem (lp : Loops) : ∀ fr σ p, (L_ib fr σ).run = some p → ∀ (K : Kt) r, K p.1 p.2.1 p.2.2 = some r → ∃ n, loopRun (envOf tab ([(26, C_nsign)]) [] lp []) Tryd.f35 0 σ.length n (cleanF (liveAt Tryd.f35 0) 0 fr) σ K = some r := by
  intro fr σ p h K r hK
  unfold L_ib at h
  split at h
  · rename_i ls n g0 g1 g7 g8
    obtain ⟨hc, h'⟩ := T.chk_some h
    rw [Bool.and_eq_true] at hc
    obtain ⟨hl, hc⟩ := hc
    obtain ⟨o, ho, h'⟩ := T.bind_some h'
    have hp := T.leaf_some h'
    subst hp
    obtain ⟨nF, hn⟩ : ∃ nF, (iterT (ib_step ls n) nF (0)).run = T.run (.br (ls.any ((fun d => nsign_v0 (D.getI d)))) (.leaf (none, mkF 19 [(4, .dat (.int .i64 (ls.findIdx ((fun d => nsign_v0 (D.getI d))) : Nat)))], ([⟨.one, false, false, .dat (.fn (.func 19) [] [])⟩]))) (.leaf (some 0, mkF 19 [], ([⟨.one, false, false, .dat (.fn (.func 19) [] [])⟩])))) := ib_closed ls n  hc
    rw [ho] at hn
    refine ⟨nF, ?_⟩
    have he : cleanF (liveAt Tryd.f35 0) 0 fr = ib_fr ls n (0) := ib_enter ls n _ fr hl g0 g1 g7 g8
    refine (iter_ok (base := 1) (ib_hr lp ls n) K nF (0) _ _ (by rw [clean_clean]; exact he) (by kernel_rfl)).trans ?_
    rw [T.k_run hn]
    exact hK
  · simp [T.run_fail] at h
theorem ib_loopOk {k : Nat} (lp : Loops) (hk : Loops.get lp 2 = some L_ib) : LoopOkN Tryd.prog k (envOf tab ([(26, C_nsign)]) [] lp []) (loopAt Tryd.f35 0).1 (loopAt Tryd.f35 0).2 := loop_okN (L := L_ib) (by kernel_rfl) hk (ib_sem lp)
def S_ib : FunT := fun args σ => match args, σ with
  | [AV.dat (D.slc Sh.one ls), AV.fn (Fn.func 26) [] [AV.ptr Sh.one 0 0 []]], [{ sh := Sh.one, dyn := false, frz := false, v := AV.dat (D.fn (Fn.func 19) [] []) }] =>
    .chk (decide ((↑(List.length ls) : Int) = (↑(List.length ls) : Int)) && ib_okL ls) (.leaf ([.dat (.int .i64 (bif List.any ls fun d => nsign_v0 (D.getI d) then (↑(List.findIdx (fun d => nsign_v0 (D.getI d)) ls) : Int) else (-1 : Int)))], [{ sh := Sh.one, dyn := false, frz := false, v := .dat (.fn (Fn.func 19) [] []) }]))
  | _, _ => .fail
theorem ib_raw0 (ls : List D) : runF (envOf tab ([(26, C_nsign)]) [] [(2, L_ib)] []) true Tryd.f35 [.dat (.slc .one ls), (.fn (.func 26) [] [.ptr .one 0 0 []])] ([⟨.one, false, false, .dat (.fn (.func 19) [] [])⟩]) =
  (bif decide ((↑(List.length ls) : Int) = (↑(List.length ls) : Int)) && ib_okL ls then
   (bif List.any ls fun d => nsign_v0 (D.getI d) then some ([.dat (.int .i64 (↑(List.findIdx (fun d => nsign_v0 (D.getI d)) ls) : Int))], [{ sh := Sh.one, dyn := false, frz := false, v := .dat (.fn (Fn.func 19) [] []) }]) else some ([.dat (.int .i64 (-1 : Int))], [{ sh := Sh.one, dyn := false, frz := false, v := .dat (.fn (Fn.func 19) [] []) }])) else none) := by kernel_rfl
theorem ib_case0 (ls : List D) : runF (envOf tab ([(26, C_nsign)]) [] [(2, L_ib)] []) true Tryd.f35 [.dat (.slc .one ls), (.fn (.func 26) [] [.ptr .one 0 0 []])] ([⟨.one, false, false, .dat (.fn (.func 19) [] [])⟩]) = FunT.run S_ib [.dat (.slc .one ls), (.fn (.func 26) [] [.ptr .one 0 0 []])] ([⟨.one, false, false, .dat (.fn (.func 19) [] [])⟩]) := (ib_raw0 ls).trans (cong2 (cond_cases (fun h0 => (by (try rw [h0]) <;> rfl)) (fun h0 => (by (try rw [h0]) <;> rfl))) rfl)
theorem ib_ok : FunOk Tryd.prog 35 (FunT.run S_ib) := by
  refine fun_ok (E := envOf tab ([(26, C_nsign)]) [] [(2, L_ib)] []) (fz := true) (fn := Tryd.f35) (envOf_ok progOk (.cons cnsign_ok (.nil _))) (by kernel_rfl) (by kernel_rfl) (loops_one (by kernel_rfl) (ib_loopOk _ rfl)) ?_
  intro args σ r h
  unfold S_ib at h
  split at h
  · exact (ib_case0 _).trans h
  · simp [T.run_fail] at h
def C_ib : FunT := fun args σ => match args, σ with
  | [.dat (.slc .one ls), (.fn (.func 26) [] [.ptr .one 0 0 []])], ([⟨.one, false, false, .dat (.fn (.func 19) [] [])⟩]) => .chk (ib_okL  ls) (.leaf ([.dat (.int .i64 (ib_idx  ls))], ([⟨.one, false, false, .dat (.fn (.func 19) [] [])⟩])))
  | _, _ => .fail
theorem cib_ok : FunOk Tryd.prog 35 (FunT.run C_ib) := ib_ok.of (by
  intro args σ r h
  unfold C_ib at h
  split at h
  · rename_i ls
    obtain ⟨hc, h'⟩ := T.chk_some h
    rw [← T.leaf_some h']
    unfold S_ib ib_idx
    simp only [hc, decide_true, Bool.and_true, T.run_chk, T.run_leaf, cond_true]
    all_goals (cases ls.any ((fun d => nsign_v0 (D.getI d))) <;> rfl)
  · simp [T.run_fail] at h)
def jb_fr (ls : List D) (n : Int) : Int → Frame' := fun i => mkF 19 [(0, .dat (.slc .one ls)), (1, (.fn (.func 26) [] [.ptr .one 0 0 []])), (7, .dat (.int .i64 n)), (8, .dat (.int .i64 i))]
def jb_st (_ls : List D) (_n : Int) : Int → Store := fun _ => ([⟨.one, false, false, .dat (.fn (.func 21) [] [])⟩])
def jb_step (ls : List D) (n : Int) : Int → T (Int ⊕ LOut) := fun i =>
  .br (decide (i < n)) (
   .chk (decide (0 ≤ i)) (
    .chk (decide (Int.toNat i < List.length ls)) (
     .chk (okE (Ek.int IntKind.u8) (nthD ls (Int.toNat i))) (
      .br (nplain_v0 (D.getI (nthD ls (Int.toNat i)))) (.leaf (.inr (none, mkF 19 [(4, .dat (.int .i64 i))], [{ sh := Sh.one, dyn := false, frz := false, v := .dat (.fn (Fn.func 21) [] []) }]))) (.leaf (.inl (IntKind.wrap IntKind.i64 (i + 1)))))))) (.leaf (.inr ((some 0), mkF 19 [], [{ sh := Sh.one, dyn := false, frz := false, v := .dat (.fn (Fn.func 21) [] []) }])))
theorem jb_round (lp : Loops) (ls : List D) (n : Int) (i : Int) (K : Kt) : oneRound (envOf tab ([(26, C_nplain)]) [] lp []) Tryd.f35 0 (1) (mkF 19 [(0, .dat (.slc .one ls)), (1, (.fn (.func 26) [] [.ptr .one 0 0 []])), (7, .dat (.int .i64 n)), (8, .dat (.int .i64 i))]) (([⟨.one, false, false, .dat (.fn (.func 21) [] [])⟩])) K =
  (bif decide (i < n) then
   (bif decide (0 ≤ i) then
    (bif decide (Int.toNat i < List.length ls) then
     (bif okE (Ek.int IntKind.u8) (nthD ls (Int.toNat i)) then
      (bif nplain_v0 (D.getI (nthD ls (Int.toNat i))) then K (Exit.ret) (mkF 19 [(4, .dat (.int .i64 i))]) ([{ sh := Sh.one, dyn := false, frz := false, v := .dat (.fn (Fn.func 21) [] []) }]) else K (Exit.normal) (mkF 19 [(0, .dat (.slc Sh.one ls)), (1, AV.fn (Fn.func 26) [] [AV.ptr Sh.one 0 0 []]), (7, .dat (.int .i64 n)), (8, .dat (.int .i64 (IntKind.wrap IntKind.i64 (i + 1)))), (9, .dat (.bool (decide (i < n)))), (18, .dat (.int .i64 (IntKind.wrap IntKind.i64 (i + 1))))]) ([{ sh := Sh.one, dyn := false, frz := false, v := .dat (.fn (Fn.func 21) [] []) }])) else none) else none) else none) else K (Exit.exit 0) (mkF 19 []) ([{ sh := Sh.one, dyn := false, frz := false, v := .dat (.fn (Fn.func 21) [] []) }])) := by kernel_rfl
theorem jb_hr (lp : Loops) (ls : List D) (n : Int) : ∀ (sA : Int) (K : Kt) (N : Int → Option Res), (∀ sB fr' σ', cleanF (liveAt Tryd.f35 0) 0 fr' = jb_fr ls n sB → trim (1) (jb_fr ls n sB) σ' = jb_st ls n sB → K .normal fr' σ' = N sB) →
    oneRound (envOf tab ([(26, C_nplain)]) [] lp []) Tryd.f35 0 (1) (jb_fr ls n sA) (jb_st ls n sA) K = (jb_step ls n sA).k (LK K N) := by
  intro i K N hN
  exact (jb_round lp ls n i K).trans (cong2 (cong2 (cong2 (cong2 (cong2 rfl (hN (IntKind.wrap IntKind.i64 (i + 1)) _ _ (by kernel_rfl) (by kernel_rfl))) rfl) rfl) rfl) rfl)
theorem jb_enter (ls : List D) (n : Int) (i : Int) (fr : Frame') (hl : Nat.beq fr.length 19 = true) (g0 : fr.getD 0 .undef = .dat (.slc Sh.one ls)) (g1 : fr.getD 1 .undef = AV.fn (Fn.func 26) [] [AV.ptr Sh.one 0 0 []]) (g7 : fr.getD 7 .undef = .dat (.int .i64 n)) (g8 : fr.getD 8 .undef = .dat (.int .i64 i)) : cleanF (liveAt Tryd.f35 0) 0 fr = jb_fr ls n i := by
  have e : liveAt Tryd.f35 0 = [7, 1, 0, 8] := by kernel_rfl
  rw [clean_mk (Nat.eq_of_beq_eq_true hl), e]
  show mkF 19 [(7, fr.getD 7 .undef), (1, fr.getD 1 .undef), (0, fr.getD 0 .undef), (8, fr.getD 8 .undef)] = _
  rw [g7, g1, g0, g8]
  kernel_rfl
def jb_idx  (ls : List D) : Int := bif ls.any ((fun d => nplain_v0 (D.getI d))) then ((ls.findIdx ((fun d => nplain_v0 (D.getI d))) : Nat) : Int) else -1
def jb_okL  (ls : List D) : Bool := ls.all ((okE (.int .u8))) && decide (ls.length ≤ 1099511627776)
theorem jb_closed (ls : List D) (n : Int)  (hc : (decide (n = (ls.length : Int)) && jb_okL  ls) = true) :
    ∃ m, (iterT (jb_step ls n ) m 0).run = T.run (.br (ls.any ((fun d => nplain_v0 (D.getI d)))) (.leaf (none, mkF 19 [(4, .dat (.int .i64 (ls.findIdx ((fun d => nplain_v0 (D.getI d))) : Nat)))], ([⟨.one, false, false, .dat (.fn (.func 21) [] [])⟩]))) (.leaf (some 0, mkF 19 [], ([⟨.one, false, false, .dat (.fn (.func 21) [] [])⟩])))) := by
  unfold jb_okL at hc
  simp only [Bool.and_eq_true, decide_eq_true_eq] at hc
  obtain ⟨rfl, h1, h2⟩ := hc
  obtain ⟨m, hm⟩ := iter_find (step := jb_step ls ls.length ) (ls := ls) (p := (fun d => nplain_v0 (D.getI d))) (o := fun k => (none, mkF 19 [(4, .dat (.int .i64 (k : Int)))], ([⟨.one, false, false, .dat (.fn (.func 21) [] [])⟩]))) (o' := (some 0, mkF 19 [], ([⟨.one, false, false, .dat (.fn (.func 21) [] [])⟩])))
    (fun k hk => by
      have hq := List.all_eq_true.1 h1 _ (nthD_mem hk)
      try simp only [Bool.and_eq_true] at hq
      unfold jb_step
      simp only [decide_eq_true (show (k : Int) < (ls.length : Int) by omega), decide_eq_true (show (0 : Int) ≤ (k : Int) by omega), Int.toNat_natCast, decide_eq_true hk, hq, wrap_succ (show k < 2 ^ 62 by omega), T.run_br, T.run_chk, T.run_leaf, cond_true]
      exact bif_some (((fun d => nplain_v0 (D.getI d))) (nthD ls k)) _ _)
    (by
      unfold jb_step
      rw [decide_eq_false (show ¬ (ls.length : Int) < (ls.length : Int) by omega)]
      rfl)
  refine ⟨m, hm.trans ?_⟩
  cases ls.any ((fun d => nplain_v0 (D.getI d))) <;> rfl
def L_jb : Frame' → Store → T (Exit × Frame' × Store) := fun fr σ => match fr.getD 0 .undef, fr.getD 1 .undef, fr.getD 7 .undef, fr.getD 8 .undef, σ with
  | AV.dat (D.slc Sh.one ls), AV.fn (Fn.func 26) [] [AV.ptr Sh.one 0 0 []], AV.dat (D.int IntKind.i64 n), AV.dat (D.int IntKind.i64 0), [{ sh := Sh.one, dyn := false, frz := false, v := AV.dat (D.fn (Fn.func 21) [] []) }] => .chk (Nat.beq fr.length 19 && (decide (n = (ls.length : Int)) && jb_okL  ls)) (T.bind (.br (ls.any ((fun d => nplain_v0 (D.getI d)))) (.leaf (none, mkF 19 [(4, .dat (.int .i64 (ls.findIdx ((fun d => nplain_v0 (D.getI d))) : Nat)))], ([⟨.one, false, false, .dat (.fn (.func 21) [] [])⟩]))) (.leaf (some 0, mkF 19 [], ([⟨.one, false, false, .dat (.fn (.func 21) [] [])⟩])))) fun o => .leaf (outEx o.1, o.2.1, o.2.2))
  | _, _, _, _, _ => .fail
theorem jb_sem (lp : Loops) : ∀ fr σ p, (L_jb fr σ).run = some p → ∀ (K : Kt) r, K p.1 p.2.1 p.2.2 = some r → ∃ n, loopRun (envOf tab ([(26, C_nplain)]) [] lp []) Tryd.f35 0 σ.length n (cleanF (liveAt Tryd.f35 0) 0 fr) σ K = some r := by
  intro fr σ p h K r hK
  unfold L_jb at h
  split at h
  · rename_i ls n g0 g1 g7 g8
    obtain ⟨hc, h'⟩ := T.chk_some h
    rw [Bool.and_eq_true] at hc
    obtain ⟨hl, hc⟩ := hc
    obtain ⟨o, ho, h'⟩ := T.bind_some h'
    have hp := T.leaf_some h'
    subst hp
    obtain ⟨nF, hn⟩ : ∃ nF, (iterT (jb_step ls n) nF (0)).run = T.run (.br (ls.any ((fun d => nplain_v0 (D.getI d)))) (.leaf (none, mkF 19 [(4, .dat (.int .i64 (ls.findIdx ((fun d => nplain_v0 (D.getI d))) : Nat)))], ([⟨.one, false, false, .dat (.fn (.func 21) [] [])⟩]))) (.leaf (some 0, mkF 19 [], ([⟨.one, false, false, .dat (.fn (.func 21) [] [])⟩])))) := jb_closed ls n  hc
    rw [ho] at hn
    refine ⟨nF, ?_⟩
    have he : cleanF (liveAt Tryd.f35 0) 0 fr = jb_fr ls n (0) := jb_enter ls n _ fr hl g0 g1 g7 g8
    refine (iter_ok (base := 1) (jb_hr lp ls n) K nF (0) _ _ (by rw [clean_clean]; exact he) (by kernel_rfl)).trans ?_
    rw [T.k_run hn]
    exact hK
  · simp [T.run_fail] at h
theorem jb_loopOk {k : Nat} (lp : Loops) (hk : Loops.get lp 2 = some L_jb) : LoopOkN Tryd.prog k (envOf tab ([(26, C_nplain)]) [] lp []) (loopAt Tryd.f35 0).1 (loopAt Tryd.f35 0).2 := loop_okN (L := L_jb) (by kernel_rfl) hk (jb_sem lp)
def S_jb : FunT := fun args σ => match args, σ with
  | [AV.dat (D.slc Sh.one ls), AV.fn (Fn.func 26) [] [AV.ptr Sh.one 0 0 []]], [{ sh := Sh.one, dyn := false, frz := false, v := AV.dat (D.fn (Fn.func 21) [] []) }] =>
    .chk (decide ((↑(List.length ls) : Int) = (↑(List.length ls) : Int)) && jb_okL ls) (.leaf ([.dat (.int .i64 (bif List.any ls fun d => nplain_v0 (D.getI d) then (↑(List.findIdx (fun d => nplain_v0 (D.getI d)) ls) : Int) else (-1 : Int)))], [{ sh := Sh.one, dyn := false, frz := false, v := .dat (.fn (Fn.func 21) [] []) }]))
  | _, _ => .fail
theorem jb_raw0 (ls : List D) : runF (envOf tab ([(26, C_nplain)]) [] [(2, L_jb)] []) true Tryd.f35 [.dat (.slc .one ls), (.fn (.func 26) [] [.ptr .one 0 0 []])] ([⟨.one, false, false, .dat (.fn (.func 21) [] [])⟩]) =
  (bif decide ((↑(List.length ls) : Int) = (↑(List.length ls) : Int)) && jb_okL ls then
   (bif List.any ls fun d => nplain_v0 (D.getI d) then some ([.dat (.int .i64 (↑(List.findIdx (fun d => nplain_v0 (D.getI d)) ls) : Int))], [{ sh := Sh.one, dyn := false, frz := false, v := .dat (.fn (Fn.func 21) [] []) }]) else some ([.dat (.int .i64 (-1 : Int))], [{ sh := Sh.one, dyn := false, frz := false, v := .dat (.fn (Fn.func 21) [] []) }])) else none) := by kernel_rfl
theorem jb_case0 (ls : List D) : runF (envOf tab ([(26, C_nplain)]) [] [(2, L_jb)] []) true Tryd.f35 [.dat (.slc .one ls), (.fn (.func 26) [] [.ptr .one 0 0 []])] ([⟨.one, false, false, .dat (.fn (.func 21) [] [])⟩]) = FunT.run S_jb [.dat (.slc .one ls), (.fn (.func 26) [] [.ptr .one 0 0 []])] ([⟨.one, false, false, .dat (.fn (.func 21) [] [])⟩]) := (jb_raw0 ls).trans (cong2 (cond_cases (fun h0 => (by (try rw [h0]) <;> rfl)) (fun h0 => (by (try rw [h0]) <;> rfl))) rfl)
theorem jb_ok : FunOk Tryd.prog 35 (FunT.run S_jb) := by
  refine fun_ok (E := envOf tab ([(26, C_nplain)]) [] [(2, L_jb)] []) (fz := true) (fn := Tryd.f35) (envOf_ok progOk (.cons cnplain_ok (.nil _))) (by kernel_rfl) (by kernel_rfl) (loops_one (by kernel_rfl) (jb_loopOk _ rfl)) ?_
  intro args σ r h
  unfold S_jb at h
  split at h
  · exact (jb_case0 _).trans h
  · simp [T.run_fail] at h
def C_jb : FunT := fun args σ => match args, σ with
  | [.dat (.slc .one ls), (.fn (.func 26) [] [.ptr .one 0 0 []])], ([⟨.one, false, false, .dat (.fn (.func 21) [] [])⟩]) => .chk (jb_okL  ls) (.leaf ([.dat (.int .i64 (jb_idx  ls))], ([⟨.one, false, false, .dat (.fn (.func 21) [] [])⟩])))
  | _, _ => .fail
theorem cjb_ok : FunOk Tryd.prog 35 (FunT.run C_jb) := jb_ok.of (by
  intro args σ r h
  unfold C_jb at h
  split at h
  · rename_i ls
    obtain ⟨hc, h'⟩ := T.chk_some h
    rw [← T.leaf_some h']
    unfold S_jb jb_idx
    simp only [hc, decide_true, Bool.and_true, T.run_chk, T.run_leaf, cond_true]
    all_goals (cases ls.any ((fun d => nplain_v0 (D.getI d))) <;> rfl)
  · simp [T.run_fail] at h)
def cfs_v0 (ls : List D) : Bool := decide (ib_idx ls ≥ 0)
def C_cfs : FunT := fun args σ => match args, σ with
  | [AV.dat (D.slc Sh.one ls), AV.fn (Fn.func 26) [] [AV.ptr Sh.one 0 0 []]], [{ sh := Sh.one, dyn := false, frz := false, v := AV.dat (D.fn (Fn.func 19) [] []) }] => .chk (ib_okL ls) (.leaf ([AV.dat (D.bool (cfs_v0 ls))], [{ sh := Sh.one, dyn := false, frz := false, v := AV.dat (D.fn (Fn.func 19) [] []) }]))
  | _, _ => .fail
theorem cfs_raw0 (ls : List D) : runF (envOf tab [(35, C_ib)] [] [] []) true Tryd.f27 [.dat (.slc .one ls), .fn (.func 26) [] [.ptr .one 0 0 []]] nsB =
  (bif ib_okL ls then some ([.dat (.bool (decide (ib_idx ls ≥ 0)))], [{ sh := Sh.one, dyn := false, frz := false, v := .dat (.fn (Fn.func 19) [] []) }]) else none) := by kernel_rfl
theorem cfs_case0 (ls : List D) : runF (envOf tab [(35, C_ib)] [] [] []) true Tryd.f27 [.dat (.slc .one ls), .fn (.func 26) [] [.ptr .one 0 0 []]] nsB = FunT.run C_cfs [.dat (.slc .one ls), .fn (.func 26) [] [.ptr .one 0 0 []]] nsB := (cfs_raw0 ls).trans (by
  show _ = (cond (ib_okL ls) (some (([.dat (.bool (decide (ib_idx ls ≥ 0)))], [{ sh := Sh.one, dyn := false, frz := false, v := .dat (.fn (Fn.func 19) [] []) }]) : Res)) none)
  generalize (ib_okL ls) = z0
  cases z0 with
  | true =>
   rfl
  | false =>
   rfl
  )
theorem ccfs_ok : FunOk Tryd.prog 27 (FunT.run C_cfs) := by
  refine fun_ok (E := envOf tab [(35, C_ib)] [] [] []) (fz := true) (fn := Tryd.f27) (envOf_ok progOk (.cons cib_ok (.nil _))) (by kernel_rfl) (by kernel_rfl) (loops_none (by kernel_rfl)) ?_
  intro args σ r h
  unfold C_cfs at h
  split at h
  · exact (cfs_case0 _).trans h
  · simp [T.run_fail] at h
def cfp_v0 (ls : List D) : Bool := decide (jb_idx ls ≥ 0)
def C_cfp : FunT := fun args σ => match args, σ with
  | [AV.dat (D.slc Sh.one ls), AV.fn (Fn.func 26) [] [AV.ptr Sh.one 0 0 []]], [{ sh := Sh.one, dyn := false, frz := false, v := AV.dat (D.fn (Fn.func 21) [] []) }] => .chk (jb_okL ls) (.leaf ([AV.dat (D.bool (cfp_v0 ls))], [{ sh := Sh.one, dyn := false, frz := false, v := AV.dat (D.fn (Fn.func 21) [] []) }]))
  | _, _ => .fail
theorem cfp_raw0 (ls : List D) : runF (envOf tab [(35, C_jb)] [] [] []) true Tryd.f27 [.dat (.slc .one ls), .fn (.func 26) [] [.ptr .one 0 0 []]] npB =
  (bif jb_okL ls then some ([.dat (.bool (decide (jb_idx ls ≥ 0)))], [{ sh := Sh.one, dyn := false, frz := false, v := .dat (.fn (Fn.func 21) [] []) }]) else none) := by kernel_rfl
theorem cfp_case0 (ls : List D) : runF (envOf tab [(35, C_jb)] [] [] []) true Tryd.f27 [.dat (.slc .one ls), .fn (.func 26) [] [.ptr .one 0 0 []]] npB = FunT.run C_cfp [.dat (.slc .one ls), .fn (.func 26) [] [.ptr .one 0 0 []]] npB := (cfp_raw0 ls).trans (by
  show _ = (cond (jb_okL ls) (some (([.dat (.bool (decide (jb_idx ls ≥ 0)))], [{ sh := Sh.one, dyn := false, frz := false, v := .dat (.fn (Fn.func 21) [] []) }]) : Res)) none)
  generalize (jb_okL ls) = z0
  cases z0 with
  | true =>
   rfl
  | false =>
   rfl
  )
theorem ccfp_ok : FunOk Tryd.prog 27 (FunT.run C_cfp) := by
  refine fun_ok (E := envOf tab [(35, C_jb)] [] [] []) (fz := true) (fn := Tryd.f27) (envOf_ok progOk (.cons cjb_ok (.nil _))) (by kernel_rfl) (by kernel_rfl) (loops_none (by kernel_rfl)) ?_
  intro args σ r h
  unfold C_cfp at h
  split at h
  · exact (cfp_case0 _).trans h
  · simp [T.run_fail] at h
def sall_v0 (s : ByteArray) : Bool := !cfs_v0 (seg (bytesD s) 0 (List.length (bytesD s)))
def sall_pre (s : ByteArray) : Bool := decide (ByteArray.size s ≤ 35184372088832) && (fits Sh.one (bytesD s) && (Nat.beq (List.length (bytesD s)) (List.length (bytesD s)) && ib_okL (seg (bytesD s) 0 (List.length (bytesD s)))))
def C_sall : FunT := fun args σ => match args, σ with
  | [AV.dat (D.str s), AV.dat (D.fn (Fn.func 19) [] [])], [] => .chk ((sall_pre s)) (.leaf ([AV.dat (D.bool (sall_v0 s))], []))
  | _, _ => .fail
theorem sall_raw0 (s : ByteArray) : runF (envOf tab [(27, C_cfs)] [] [] []) true Tryd.f18 [.dat (.str s), .dat (.fn (.func 19) [] [])] [] =
  (bif decide (ByteArray.size s ≤ 35184372088832) then
   (bif fits Sh.one (bytesD s) then
    (bif Nat.beq (List.length (bytesD s)) (List.length (bytesD s)) then
     (bif ib_okL (seg (bytesD s) 0 (List.length (bytesD s))) then some ([.dat (.bool !cfs_v0 (seg (bytesD s) 0 (List.length (bytesD s))))], []) else none) else none) else none) else none) := by kernel_rfl
theorem sall_case0 (s : ByteArray) : runF (envOf tab [(27, C_cfs)] [] [] []) true Tryd.f18 [.dat (.str s), .dat (.fn (.func 19) [] [])] [] = FunT.run C_sall [.dat (.str s), .dat (.fn (.func 19) [] [])] [] := (sall_raw0 s).trans (by
  show _ = (cond (decide (ByteArray.size s ≤ 35184372088832) && (fits Sh.one (bytesD s) && (Nat.beq (List.length (bytesD s)) (List.length (bytesD s)) && ib_okL (seg (bytesD s) 0 (List.length (bytesD s)))))) (some (([.dat (.bool !cfs_v0 (seg (bytesD s) 0 (List.length (bytesD s))))], []) : Res)) none)
  generalize (decide (ByteArray.size s ≤ 35184372088832)) = z0
  generalize (ib_okL (seg (bytesD s) 0 (List.length (bytesD s)))) = z1
  generalize (Nat.beq (List.length (bytesD s)) (List.length (bytesD s))) = z2
  generalize (fits Sh.one (bytesD s)) = z3
  cases z0 with
  | true =>
   cases z3 with
   | true =>
    cases z2 with
    | true =>
     cases z1 with
     | true =>
      rfl
     | false =>
      rfl
    | false =>
     rfl
   | false =>
    rfl
  | false =>
   rfl
  )
theorem csall_ok : FunOk Tryd.prog 18 (FunT.run C_sall) := by
  refine fun_ok (E := envOf tab [(27, C_cfs)] [] [] []) (fz := true) (fn := Tryd.f18) (envOf_ok progOk (.cons ccfs_ok (.nil _))) (by kernel_rfl) (by kernel_rfl) (loops_none (by kernel_rfl)) ?_
  intro args σ r h
  unfold C_sall at h
  split at h
  · exact (sall_case0 _).trans h
  · simp [T.run_fail] at h
def pall_v0 (s : ByteArray) : Bool := !cfp_v0 (seg (bytesD s) 0 (List.length (bytesD s)))
def pall_pre (s : ByteArray) : Bool := decide (ByteArray.size s ≤ 35184372088832) && (fits Sh.one (bytesD s) && (Nat.beq (List.length (bytesD s)) (List.length (bytesD s)) && jb_okL (seg (bytesD s) 0 (List.length (bytesD s)))))
def C_pall : FunT := fun args σ => match args, σ with
  | [AV.dat (D.str s), AV.dat (D.fn (Fn.func 21) [] [])], [] => .chk ((pall_pre s)) (.leaf ([AV.dat (D.bool (pall_v0 s))], []))
  | _, _ => .fail
theorem pall_raw0 (s : ByteArray) : runF (envOf tab [(27, C_cfp)] [] [] []) true Tryd.f18 [.dat (.str s), .dat (.fn (.func 21) [] [])] [] =
  (bif decide (ByteArray.size s ≤ 35184372088832) then
   (bif fits Sh.one (bytesD s) then
    (bif Nat.beq (List.length (bytesD s)) (List.length (bytesD s)) then
     (bif jb_okL (seg (bytesD s) 0 (List.length (bytesD s))) then some ([.dat (.bool !cfp_v0 (seg (bytesD s) 0 (List.length (bytesD s))))], []) else none) else none) else none) else none) := by kernel_rfl
theorem pall_case0 (s : ByteArray) : runF (envOf tab [(27, C_cfp)] [] [] []) true Tryd.f18 [.dat (.str s), .dat (.fn (.func 21) [] [])] [] = FunT.run C_pall [.dat (.str s), .dat (.fn (.func 21) [] [])] [] := (pall_raw0 s).trans (by
  show _ = (cond (decide (ByteArray.size s ≤ 35184372088832) && (fits Sh.one (bytesD s) && (Nat.beq (List.length (bytesD s)) (List.length (bytesD s)) && jb_okL (seg (bytesD s) 0 (List.length (bytesD s)))))) (some (([.dat (.bool !cfp_v0 (seg (bytesD s) 0 (List.length (bytesD s))))], []) : Res)) none)
  generalize (decide (ByteArray.size s ≤ 35184372088832)) = z0
  generalize (jb_okL (seg (bytesD s) 0 (List.length (bytesD s)))) = z1
  generalize (Nat.beq (List.length (bytesD s)) (List.length (bytesD s))) = z2
  generalize (fits Sh.one (bytesD s)) = z3
  cases z0 with
  | true =>
   cases z3 with
   | true =>
    cases z2 with
    | true =>
     cases z1 with
     | true =>
      rfl
     | false =>
      rfl
    | false =>
     rfl
   | false =>
    rfl
  | false =>
   rfl
  )
theorem cpall_ok : FunOk Tryd.prog 18 (FunT.run C_pall) := by
  refine fun_ok (E := envOf tab [(27, C_cfp)] [] [] []) (fz := true) (fn := Tryd.f18) (envOf_ok progOk (.cons ccfp_ok (.nil _))) (by kernel_rfl) (by kernel_rfl) (loops_none (by kernel_rfl)) ?_
  intro args σ r h
  unfold C_pall at h
  split at h
  · exact (pall_case0 _).trans h
  · simp [T.run_fail] at h
def nright_v0 (s : ByteArray) : Bool := !decide ((↑(ByteArray.size s) : Int) < 1) && (!decide (12 < (↑(ByteArray.size s) : Int)) && (small_v0 (↑(UInt8.toNat (strAt s 0)) : Int) && sall_v0 s))
def nright_pre (s : ByteArray) : Bool := decide ((↑(ByteArray.size s) : Int) < 1) || (decide (12 < (↑(ByteArray.size s) : Int)) || decide (0 < List.length (Array.toList (ByteArray.data s))) && (!small_v0 (↑(UInt8.toNat (strAt s 0)) : Int) || sall_pre s))
def C_nright : FunT := fun args σ => match args, σ with
  | [AV.dat (D.str s)], [] => .chk ((nright_pre s)) (.leaf ([AV.dat (D.bool (nright_v0 s))], []))
  | _, _ => .fail
theorem nright_raw0 (s : ByteArray) : runF (envOf tab [(18, C_sall), (17, C_small)] [] [] []) true Tryd.f7 [.dat (.str s)] [] =
  (bif decide ((↑(ByteArray.size s) : Int) < 1) then some ([.dat (.bool false)], []) else
   (bif decide ((↑(ByteArray.size s) : Int) > 12) then some ([.dat (.bool false)], []) else
    (bif decide (0 < List.length (Array.toList (ByteArray.data s))) then
     (bif !small_v0 (↑(UInt8.toNat (strAt s 0)) : Int) then some ([.dat (.bool false)], []) else
      (bif sall_pre s then some ([.dat (.bool (sall_v0 s))], []) else none)) else none))) := by kernel_rfl
theorem nright_case0 (s : ByteArray) : runF (envOf tab [(18, C_sall), (17, C_small)] [] [] []) true Tryd.f7 [.dat (.str s)] [] = FunT.run C_nright [.dat (.str s)] [] := (nright_raw0 s).trans (by
  show _ = (cond (decide ((↑(ByteArray.size s) : Int) < 1) || (decide (12 < (↑(ByteArray.size s) : Int)) || decide (0 < List.length (Array.toList (ByteArray.data s))) && (!small_v0 (↑(UInt8.toNat (strAt s 0)) : Int) || sall_pre s))) (some (([.dat (.bool (!decide ((↑(ByteArray.size s) : Int) < 1) && (!decide (12 < (↑(ByteArray.size s) : Int)) && (small_v0 (↑(UInt8.toNat (strAt s 0)) : Int) && sall_v0 s))))], []) : Res)) none)
  generalize (decide (0 < List.length (Array.toList (ByteArray.data s)))) = z0
  generalize (decide ((↑(ByteArray.size s) : Int) < 1)) = z1
  generalize (decide (12 < (↑(ByteArray.size s) : Int))) = z2
  generalize (small_v0 (↑(UInt8.toNat (strAt s 0)) : Int)) = z3
  generalize (sall_pre s) = z4
  cases z1 with
  | true =>
   rfl
  | false =>
   cases z2 with
   | true =>
    rfl
   | false =>
    cases z0 with
    | true =>
     cases z3 with
     | true =>
      cases z4 with
      | true =>
       rfl
      | false =>
       rfl
     | false =>
      rfl
    | false =>
     rfl
  )
theorem cnright_ok : FunOk Tryd.prog 7 (FunT.run C_nright) := by
  refine fun_ok (E := envOf tab [(18, C_sall), (17, C_small)] [] [] []) (fz := true) (fn := Tryd.f7) (envOf_ok progOk (.cons csall_ok (.cons csmall_ok (.nil _)))) (by kernel_rfl) (by kernel_rfl) (loops_none (by kernel_rfl)) ?_
  intro args σ r h
  unfold C_nright at h
  split at h
  · exact (nright_case0 _).trans h
  · simp [T.run_fail] at h
def tl_fr (c : Int) : ByteArray → Frame' := fun s => mkF 17 [(0, .dat (.str s)), (1, .dat (.int .u8 c))]
def tl_st (_c : Int) : ByteArray → Store := fun _ => []
def tl_step (c : Int) : ByteArray → T (ByteArray ⊕ LOut) := fun s =>
  .chk (!decide (0 < (↑(ByteArray.size s) : Int)) || decide (0 < List.length (Array.toList (ByteArray.data s))) && (!(↑(UInt8.toNat (strAt s 0)) : Int) == c || decide (1 ≤ ByteArray.size s) && decide (ByteArray.size s ≤ ByteArray.size s))) (
   .br (!decide (0 < (↑(ByteArray.size s) : Int)) || !(↑(UInt8.toNat (strAt s 0)) : Int) == c) (.leaf (.inr ((some 0), mkF 17 [(0, .dat (.str s))], []))) (.leaf (.inl (subStr s 1 (ByteArray.size s)))))
theorem tl_round (lp : Loops) (c : Int) (s : ByteArray) (K : Kt) : oneRound (envOf tab [] [] lp []) Tryd.f28 0 (0) (mkF 17 [(0, .dat (.str s)), (1, .dat (.int .u8 c))]) ([]) K =
  (bif decide ((↑(ByteArray.size s) : Int) > 0) then
   (bif decide (0 < List.length (Array.toList (ByteArray.data s))) then
    (bif (↑(UInt8.toNat (strAt s 0)) : Int) == c then
     (bif decide (1 ≤ ByteArray.size s) && decide (ByteArray.size s ≤ ByteArray.size s) then K (Exit.normal) (mkF 17 [(0, .dat (.str (subStr s 1 (ByteArray.size s)))), (1, .dat (.int IntKind.u8 c)), (14, .dat (.str s)), (15, .dat (.str (subStr s 1 (ByteArray.size s))))]) ([]) else none) else K (Exit.exit 0) (mkF 17 [(0, .dat (.str s))]) ([])) else none) else K (Exit.exit 0) (mkF 17 [(0, .dat (.str s))]) ([])) := by kernel_rfl
theorem tl_hr (lp : Loops) (c : Int) : ∀ (sA : ByteArray) (K : Kt) (N : ByteArray → Option Res), (∀ sB fr' σ', cleanF (liveAt Tryd.f28 0) 0 fr' = tl_fr c sB → trim (0) (tl_fr c sB) σ' = tl_st c sB → K .normal fr' σ' = N sB) →
    oneRound (envOf tab [] [] lp []) Tryd.f28 0 (0) (tl_fr c sA) (tl_st c sA) K = (tl_step c sA).k (LK K N) := by
  intro s K N hN
  refine (tl_round lp c s K).trans ?_
  show _ = T.k ((
  .chk (!decide (0 < (↑(ByteArray.size s) : Int)) || decide (0 < List.length (Array.toList (ByteArray.data s))) && (!(↑(UInt8.toNat (strAt s 0)) : Int) == c || decide (1 ≤ ByteArray.size s) && decide (ByteArray.size s ≤ ByteArray.size s))) (
   .br (!decide (0 < (↑(ByteArray.size s) : Int)) || !(↑(UInt8.toNat (strAt s 0)) : Int) == c) (.leaf (.inr ((some 0), mkF 17 [(0, .dat (.str s))], []))) (.leaf (.inl (subStr s 1 (ByteArray.size s)))))) : T (ByteArray ⊕ LOut)) (LK K N)
  generalize (decide (1 ≤ ByteArray.size s) && decide (ByteArray.size s ≤ ByteArray.size s)) = z0
  generalize (decide (0 < List.length (Array.toList (ByteArray.data s)))) = z1
  generalize (decide (0 < (↑(ByteArray.size s) : Int))) = z2
  generalize ((↑(UInt8.toNat (strAt s 0)) : Int) == c) = z3
  cases z2 with
  | true =>
   cases z1 with
   | true =>
    cases z3 with
    | true =>
     cases z0 with
     | true =>
      exact hN _ _ _ (by kernel_rfl) (by kernel_rfl)
     | false =>
      rfl
    | false =>
     rfl
   | false =>
    rfl
  | false =>
   rfl
theorem tl_enter (c : Int) (s : ByteArray) (fr : Frame') (hl : Nat.beq fr.length 17 = true) (g0 : fr.getD 0 .undef = .dat (.str s)) (g1 : fr.getD 1 .undef = .dat (.int IntKind.u8 c)) : cleanF (liveAt Tryd.f28 0) 0 fr = tl_fr c s := by
  have e : liveAt Tryd.f28 0 = [1, 0] := by kernel_rfl
  rw [clean_mk (Nat.eq_of_beq_eq_true hl), e]
  show mkF 17 [(1, fr.getD 1 .undef), (0, fr.getD 0 .undef)] = _
  rw [g1, g0]
  kernel_rfl
def tr_fr (c : Int) : ByteArray → Frame' := fun s => mkF 23 [(0, .dat (.str s)), (1, .dat (.int .u8 c))]
def tr_st (_c : Int) : ByteArray → Store := fun _ => []
def tr_u0 (s : ByteArray) := IntKind.wrap IntKind.i64 ((↑(ByteArray.size s) : Int) - 1)
def tr_u1 (s : ByteArray) := UInt8.toNat (strAt s (Int.toNat (tr_u0 s)))
def tr_step (c : Int) : ByteArray → T (ByteArray ⊕ LOut) := fun s =>
  .chk (!decide (0 < (↑(ByteArray.size s) : Int)) || decide (0 ≤ (tr_u0 s)) && (decide (Int.toNat (tr_u0 s) < List.length (Array.toList (ByteArray.data s))) && (!(↑(tr_u1 s) : Int) == c || decide (Int.toNat (tr_u0 s) ≤ ByteArray.size s)))) (
   .br (!decide (0 < (↑(ByteArray.size s) : Int)) || !(↑(tr_u1 s) : Int) == c) (.leaf (.inr ((some 0), mkF 23 [(0, .dat (.str s))], []))) (.leaf (.inl (subStr s 0 (Int.toNat (tr_u0 s))))))
theorem tr_round (lp : Loops) (c : Int) (s : ByteArray) (K : Kt) : oneRound (envOf tab [] [] lp []) Tryd.f29 0 (0) (mkF 23 [(0, .dat (.str s)), (1, .dat (.int .u8 c))]) ([]) K =
  (bif decide ((↑(ByteArray.size s) : Int) > 0) then
   (bif decide (0 ≤ (tr_u0 s)) then
    (bif decide (Int.toNat (tr_u0 s) < List.length (Array.toList (ByteArray.data s))) then
     (bif (↑(tr_u1 s) : Int) == c then
      (bif decide (0 ≤ (tr_u0 s)) then
       (bif decide (Int.toNat (tr_u0 s) ≤ ByteArray.size s) then K (Exit.normal) (mkF 23 [(0, .dat (.str (subStr s 0 (Int.toNat (tr_u0 s))))), (1, .dat (.int IntKind.u8 c)), (17, .dat (.str s)), (18, .dat (.str s)), (19, .dat (.int .i64 (↑(ByteArray.size s) : Int))), (20, .dat (.int .i64 (tr_u0 s))), (21, .dat (.str (subStr s 0 (Int.toNat (tr_u0 s)))))]) ([]) else none) else none) else K (Exit.exit 0) (mkF 23 [(0, .dat (.str s))]) ([])) else none) else none) else K (Exit.exit 0) (mkF 23 [(0, .dat (.str s))]) ([])) := by kernel_rfl
theorem tr_hr (lp : Loops) (c : Int) : ∀ (sA : ByteArray) (K : Kt) (N : ByteArray → Option Res), (∀ sB fr' σ', cleanF (liveAt Tryd.f29 0) 0 fr' = tr_fr c sB → trim (0) (tr_fr c sB) σ' = tr_st c sB → K .normal fr' σ' = N sB) →
    oneRound (envOf tab [] [] lp []) Tryd.f29 0 (0) (tr_fr c sA) (tr_st c sA) K = (tr_step c sA).k (LK K N) := by
  intro s K N hN
  refine (tr_round lp c s K).trans ?_
  show _ = T.k ((
  .chk (!decide (0 < (↑(ByteArray.size s) : Int)) || decide (0 ≤ (tr_u0 s)) && (decide (Int.toNat (tr_u0 s) < List.length (Array.toList (ByteArray.data s))) && (!(↑(tr_u1 s) : Int) == c || decide (Int.toNat (tr_u0 s) ≤ ByteArray.size s)))) (
   .br (!decide (0 < (↑(ByteArray.size s) : Int)) || !(↑(tr_u1 s) : Int) == c) (.leaf (.inr ((some 0), mkF 23 [(0, .dat (.str s))], []))) (.leaf (.inl (subStr s 0 (Int.toNat (tr_u0 s))))))) : T (ByteArray ⊕ LOut)) (LK K N)
  generalize (decide (Int.toNat (tr_u0 s) < List.length (Array.toList (ByteArray.data s)))) = z0
  generalize (decide (0 ≤ (tr_u0 s))) = z1
  generalize (decide (Int.toNat (tr_u0 s) ≤ ByteArray.size s)) = z2
  generalize ((↑(tr_u1 s) : Int) == c) = z3
  generalize (decide (0 < (↑(ByteArray.size s) : Int))) = z4
  cases z4 with
  | true =>
   cases z1 with
   | true =>
    cases z0 with
    | true =>
     cases z3 with
     | true =>
      cases z2 with
      | true =>
       exact hN _ _ _ (by kernel_rfl) (by kernel_rfl)
      | false =>
       rfl
     | false =>
      rfl
    | false =>
     rfl
   | false =>
    rfl
  | false =>
   rfl
theorem tr_enter (c : Int) (s : ByteArray) (fr : Frame') (hl : Nat.beq fr.length 23 = true) (g0 : fr.getD 0 .undef = .dat (.str s)) (g1 : fr.getD 1 .undef = .dat (.int IntKind.u8 c)) : cleanF (liveAt Tryd.f29 0) 0 fr = tr_fr c s := by
  have e : liveAt Tryd.f29 0 = [1, 0] := by kernel_rfl
  rw [clean_mk (Nat.eq_of_beq_eq_true hl), e]
  show mkF 23 [(1, fr.getD 1 .undef), (0, fr.getD 0 .undef)] = _
  rw [g1, g0]
  kernel_rfl
end Go.Proofs.YtniombjfbdojjaaDoor
