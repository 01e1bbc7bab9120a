/- Seat 17: texts that may be. -/
import Derived.Test.YtggellmbhgkckaaDoorTab
import Derived.Test.YtggellmbhgkckaaDoorAx22
namespace Go.Proofs.YtggellmbhgkckaaDoor
open Go.AX
set_option maxRecDepth 100000
def plain_v0 (n : Int) : Bool := decide (32 ≤ n) && decide (n ≤ 126)
def C_plain : FunT := fun args σ => match args, σ with
  | [AV.dat (D.int IntKind.u8 n)], [] => .leaf ([AV.dat (D.bool (plain_v0 n))], [])
  | _, _ => .fail
theorem plain_raw0 (n : Int) : runF (envOf tab [] [] [] []) true Tryd.f24 [.dat (.int .u8 n)] [] =
  (bif decide (n ≥ 32) then some ([.dat (.bool (decide (n ≤ 126)))], []) else some ([.dat (.bool false)], [])) := by kernel_rfl
theorem plain_case0 (n : Int) : runF (envOf tab [] [] [] []) true Tryd.f24 [.dat (.int .u8 n)] [] = FunT.run C_plain [.dat (.int .u8 n)] [] := (plain_raw0 n).trans (by
  show _ = (some (([.dat (.bool (decide (32 ≤ n) && decide (n ≤ 126)))], []) : Res))
  generalize (decide (32 ≤ n)) = z0
  cases z0 with
  | true =>
   rfl
  | false =>
   rfl
  )
theorem cplain_ok : FunOk Tryd.prog 24 (FunT.run C_plain) := by
  refine fun_ok (E := envOf tab [] [] [] []) (fz := true) (fn := Tryd.f24) (envOf_ok progOk (.nil _)) (by kernel_rfl) (by kernel_rfl) (loops_none (by kernel_rfl)) ?_
  intro args σ r h
  unfold C_plain at h
  split at h
  · exact (plain_case0 _).trans h
  · simp [T.run_fail] at h
def nplain_v0 (n : Int) : Bool := !plain_v0 n
def C_nplain : FunT := fun args σ => match args, σ with
  | [AV.dat (D.int IntKind.u8 n), AV.ptr Sh.one 0 0 []], [{ sh := Sh.one, dyn := false, frz := false, v := AV.dat (D.fn (Fn.func 24) [] []) }] => .leaf ([AV.dat (D.bool (nplain_v0 n))], [{ sh := Sh.one, dyn := false, frz := false, v := AV.dat (D.fn (Fn.func 24) [] []) }])
  | _, _ => .fail
theorem nplain_raw0 (n : Int) : runF (envOf tab [(24, C_plain)] [] [] []) true Tryd.f33 [.dat (.int .u8 n), .ptr .one 0 0 []] [⟨.one, false, false, .dat (.fn (.func 24) [] [])⟩] =some ([.dat (.bool !plain_v0 n)], [{ sh := Sh.one, dyn := false, frz := false, v := .dat (.fn (Fn.func 24) [] []) }]) := by kernel_rfl
theorem nplain_case0 (n : Int) : runF (envOf tab [(24, C_plain)] [] [] []) true Tryd.f33 [.dat (.int .u8 n), .ptr .one 0 0 []] [⟨.one, false, false, .dat (.fn (.func 24) [] [])⟩] = FunT.run C_nplain [.dat (.int .u8 n), .ptr .one 0 0 []] [⟨.one, false, false, .dat (.fn (.func 24) [] [])⟩] := (nplain_raw0 n).trans (by
  show _ = (some (([.dat (.bool !plain_v0 n)], [{ sh := Sh.one, dyn := false, frz := false, v := .dat (.fn (Fn.func 24) [] []) }]) : Res))
  rfl
  )
theorem cnplain_ok : FunOk Tryd.prog 33 (FunT.run C_nplain) := by
  refine fun_ok (E := envOf tab [(24, C_plain)] [] [] []) (fz := true) (fn := Tryd.f33) (envOf_ok progOk (.cons cplain_ok (.nil _))) (by kernel_rfl) (by kernel_rfl) (loops_none (by kernel_rfl)) ?_
  intro args σ r h
  unfold C_nplain at h
  split at h
  · exact (nplain_case0 _).trans h
  · simp [T.run_fail] at h
abbrev npB : Store := [⟨.one, false, false, .dat (.fn (.func 24) [] [])⟩]
def ib_fr (ls : List D) (n : Int) : Int → Frame' := fun i => mkF 19 [(0, .dat (.slc .one ls)), (1, (.fn (.func 33) [] [.ptr .one 0 0 []])), (7, .dat (.int .i64 n)), (8, .dat (.int .i64 i))]
def ib_st (_ls : List D) (_n : Int) : Int → Store := fun _ => ([⟨.one, false, false, .dat (.fn (.func 24) [] [])⟩])
def ib_step (ls : List D) (n : Int) : Int → T (Int ⊕ LOut) := fun i =>
  .br (decide (i < n)) (
   .chk (decide (0 ≤ i)) (
    .chk (decide (Int.toNat i < List.length ls)) (
     .chk (okE (Ek.int IntKind.u8) (nthD ls (Int.toNat i))) (
      .br (nplain_v0 (D.getI (nthD ls (Int.toNat i)))) (.leaf (.inr (none, mkF 19 [(4, .dat (.int .i64 i))], [{ sh := Sh.one, dyn := false, frz := false, v := .dat (.fn (Fn.func 24) [] []) }]))) (.leaf (.inl (IntKind.wrap IntKind.i64 (i + 1)))))))) (.leaf (.inr ((some 0), mkF 19 [], [{ sh := Sh.one, dyn := false, frz := false, v := .dat (.fn (Fn.func 24) [] []) }])))
theorem ib_round (lp : Loops) (ls : List D) (n : Int) (i : Int) (K : Kt) : oneRound (envOf tab ([(33, C_nplain)]) [] lp []) Tryd.f43 0 (1) (mkF 19 [(0, .dat (.slc .one ls)), (1, (.fn (.func 33) [] [.ptr .one 0 0 []])), (7, .dat (.int .i64 n)), (8, .dat (.int .i64 i))]) (([⟨.one, false, false, .dat (.fn (.func 24) [] [])⟩])) K =
  (bif decide (i < n) then
   (bif decide (0 ≤ i) then
    (bif decide (Int.toNat i < List.length ls) then
     (bif okE (Ek.int IntKind.u8) (nthD ls (Int.toNat i)) then
      (bif nplain_v0 (D.getI (nthD ls (Int.toNat i))) then K (Exit.ret) (mkF 19 [(4, .dat (.int .i64 i))]) ([{ sh := Sh.one, dyn := false, frz := false, v := .dat (.fn (Fn.func 24) [] []) }]) else K (Exit.normal) (mkF 19 [(0, .dat (.slc Sh.one ls)), (1, AV.fn (Fn.func 33) [] [AV.ptr Sh.one 0 0 []]), (7, .dat (.int .i64 n)), (8, .dat (.int .i64 (IntKind.wrap IntKind.i64 (i + 1)))), (9, .dat (.bool (decide (i < n)))), (18, .dat (.int .i64 (IntKind.wrap IntKind.i64 (i + 1))))]) ([{ sh := Sh.one, dyn := false, frz := false, v := .dat (.fn (Fn.func 24) [] []) }])) else none) else none) else none) else K (Exit.exit 0) (mkF 19 []) ([{ sh := Sh.one, dyn := false, frz := false, v := .dat (.fn (Fn.func 24) [] []) }])) := by kernel_rfl
theorem ib_hr (lp : Loops) (ls : List D) (n : Int) : ∀ (sA : Int) (K : Kt) (N : Int → Option Res), (∀ sB fr' σ', cleanF (liveAt Tryd.f43 0) 0 fr' = ib_fr ls n sB → trim (1) (ib_fr ls n sB) σ' = ib_st ls n sB → K .normal fr' σ' = N sB) →
    oneRound (envOf tab ([(33, C_nplain)]) [] lp []) Tryd.f43 0 (1) (ib_fr ls n sA) (ib_st ls n sA) K = (ib_step ls n sA).k (LK K N) := by
  intro i K N hN
  exact (ib_round lp ls n i K).trans (cong2 (cong2 (cong2 (cong2 (cong2 rfl (hN (IntKind.wrap IntKind.i64 (i + 1)) _ _ (by kernel_rfl) (by kernel_rfl))) rfl) rfl) rfl) rfl)
theorem ib_enter (ls : List D) (n : Int) (i : Int) (fr : Frame') (hl : Nat.beq fr.length 19 = true) (g0 : fr.getD 0 .undef = .dat (.slc Sh.one ls)) (g1 : fr.getD 1 .undef = AV.fn (Fn.func 33) [] [AV.ptr Sh.one 0 0 []]) (g7 : fr.getD 7 .undef = .dat (.int .i64 n)) (g8 : fr.getD 8 .undef = .dat (.int .i64 i)) : cleanF (liveAt Tryd.f43 0) 0 fr = ib_fr ls n i := by
  have e : liveAt Tryd.f43 0 = [7, 1, 0, 8] := by kernel_rfl
  rw [clean_mk (Nat.eq_of_beq_eq_true hl), e]
  show mkF 19 [(7, fr.getD 7 .undef), (1, fr.getD 1 .undef), (0, fr.getD 0 .undef), (8, fr.getD 8 .undef)] = _
  rw [g7, g1, g0, g8]
  kernel_rfl
def ib_idx  (ls : List D) : Int := bif ls.any ((fun d => nplain_v0 (D.getI d))) then ((ls.findIdx ((fun d => nplain_v0 (D.getI d))) : Nat) : Int) else -1
def ib_okL  (ls : List D) : Bool := ls.all ((okE (.int .u8))) && decide (ls.length ≤ 1099511627776)
theorem ib_closed (ls : List D) (n : Int)  (hc : (decide (n = (ls.length : Int)) && ib_okL  ls) = true) :
    ∃ m, (iterT (ib_step ls n ) m 0).run = T.run (.br (ls.any ((fun d => nplain_v0 (D.getI d)))) (.leaf (none, mkF 19 [(4, .dat (.int .i64 (ls.findIdx ((fun d => nplain_v0 (D.getI d))) : Nat)))], ([⟨.one, false, false, .dat (.fn (.func 24) [] [])⟩]))) (.leaf (some 0, mkF 19 [], ([⟨.one, false, false, .dat (.fn (.func 24) [] [])⟩])))) := by
  unfold ib_okL at hc
  simp only [Bool.and_eq_true, decide_eq_true_eq] at hc
  obtain ⟨rfl, h1, h2⟩ := hc
  obtain ⟨m, hm⟩ := iter_find (step := ib_step ls ls.length ) (ls := ls) (p := (fun d => nplain_v0 (D.getI d))) (o := fun k => (none, mkF 19 [(4, .dat (.int .i64 (k : Int)))], ([⟨.one, false, false, .dat (.fn (.func 24) [] [])⟩]))) (o' := (some 0, mkF 19 [], ([⟨.one, false, false, .dat (.fn (.func 24) [] [])⟩])))
    (fun k hk => by
      have hq := List.all_eq_true.1 h1 _ (nthD_mem hk)
      try simp only [Bool.and_eq_true] at hq
      unfold ib_step
      simp only [decide_eq_true (show (k : Int) < (ls.length : Int) by omega), decide_eq_true (show (0 : Int) ≤ (k : Int) by omega), Int.toNat_natCast, decide_eq_true hk, hq, wrap_succ (show k < 2 ^ 62 by omega), T.run_br, T.run_chk, T.run_leaf, cond_true]
      exact bif_some (((fun d => nplain_v0 (D.getI d))) (nthD ls k)) _ _)
    (by
      unfold ib_step
      rw [decide_eq_false (show ¬ (ls.length : Int) < (ls.length : Int) by omega)]
      rfl)
  refine ⟨m, hm.trans ?_⟩
  cases ls.any ((fun d => nplain_v0 (D.getI d))) <;> rfl
def L_ib : Frame' → Store → T (Exit × Frame' × Store) := fun fr σ => match fr.getD 0 .undef, fr.getD 1 .undef, fr.getD 7 .undef, fr.getD 8 .undef, σ with
  | AV.dat (D.slc Sh.one ls), AV.fn (Fn.func 33) [] [AV.ptr Sh.one 0 0 []], AV.dat (D.int IntKind.i64 n), AV.dat (D.int IntKind.i64 0), [{ sh := Sh.one, dyn := false, frz := false, v := AV.dat (D.fn (Fn.func 24) [] []) }] => .chk (Nat.beq fr.length 19 && (decide (n = (ls.length : Int)) && ib_okL  ls)) (T.bind (.br (ls.any ((fun d => nplain_v0 (D.getI d)))) (.leaf (none, mkF 19 [(4, .dat (.int .i64 (ls.findIdx ((fun d => nplain_v0 (D.getI d))) : Nat)))], ([⟨.one, false, false, .dat (.fn (.func 24) [] [])⟩]))) (.leaf (some 0, mkF 19 [], ([⟨.one, false, false, .dat (.fn (.func 24) [] [])⟩])))) fun o => .leaf (outEx o.1, o.2.1, o.2.2))
  | _, _, _, _, _ => .fail
theorem ib_sem (lp : Loops) : ∀ fr σ p, (L_ib fr σ).run = some p → ∀ (K : Kt) r, K p.1 p.2.1 p.2.2 = some r → ∃ n, loopRun (envOf tab ([(33, C_nplain)]) [] lp []) Tryd.f43 0 σ.length n (cleanF (liveAt Tryd.f43 0) 0 fr) σ K = some r := by
  intro fr σ p h K r hK
  unfold L_ib at h
  split at h
  · rename_i ls n g0 g1 g7 g8
    obtain ⟨hc, h'⟩ := T.chk_some h
    rw [Bool.and_eq_true] at hc
    obtain ⟨hl, hc⟩ := hc
    obtain ⟨o, ho, h'⟩ := T.bind_some h'
    have hp := T.leaf_some h'
    subst hp
    obtain ⟨nF, hn⟩ : ∃ nF, (iterT (ib_step ls n) nF (0)).run = T.run (.br (ls.any ((fun d => nplain_v0 (D.getI d)))) (.leaf (none, mkF 19 [(4, .dat (.int .i64 (ls.findIdx ((fun d => nplain_v0 (D.getI d))) : Nat)))], ([⟨.one, false, false, .dat (.fn (.func 24) [] [])⟩]))) (.leaf (some 0, mkF 19 [], ([⟨.one, false, false, .dat (.fn (.func 24) [] [])⟩])))) := ib_closed ls n  hc
    rw [ho] at hn
    refine ⟨nF, ?_⟩
    have he : cleanF (liveAt Tryd.f43 0) 0 fr = ib_fr ls n (0) := ib_enter ls n _ fr hl g0 g1 g7 g8
    refine (iter_ok (base := 1) (ib_hr lp ls n) K nF (0) _ _ (by rw [clean_clean]; exact he) (by kernel_rfl)).trans ?_
    rw [T.k_run hn]
    exact hK
  · simp [T.run_fail] at h
theorem ib_loopOk {k : Nat} (lp : Loops) (hk : Loops.get lp 2 = some L_ib) : LoopOkN Tryd.prog k (envOf tab ([(33, C_nplain)]) [] lp []) (loopAt Tryd.f43 0).1 (loopAt Tryd.f43 0).2 := loop_okN (L := L_ib) (by kernel_rfl) hk (ib_sem lp)
def S_ib : FunT := fun args σ => match args, σ with
  | [AV.dat (D.slc Sh.one ls), AV.fn (Fn.func 33) [] [AV.ptr Sh.one 0 0 []]], [{ sh := Sh.one, dyn := false, frz := false, v := AV.dat (D.fn (Fn.func 24) [] []) }] =>
    .chk (decide ((↑(List.length ls) : Int) = (↑(List.length ls) : Int)) && ib_okL ls) (.leaf ([.dat (.int .i64 (bif List.any ls fun d => nplain_v0 (D.getI d) then (↑(List.findIdx (fun d => nplain_v0 (D.getI d)) ls) : Int) else (-1 : Int)))], [{ sh := Sh.one, dyn := false, frz := false, v := .dat (.fn (Fn.func 24) [] []) }]))
  | _, _ => .fail
theorem ib_raw0 (ls : List D) : runF (envOf tab ([(33, C_nplain)]) [] [(2, L_ib)] []) true Tryd.f43 [.dat (.slc .one ls), (.fn (.func 33) [] [.ptr .one 0 0 []])] ([⟨.one, false, false, .dat (.fn (.func 24) [] [])⟩]) =
  (bif decide ((↑(List.length ls) : Int) = (↑(List.length ls) : Int)) && ib_okL ls then
   (bif List.any ls fun d => nplain_v0 (D.getI d) then some ([.dat (.int .i64 (↑(List.findIdx (fun d => nplain_v0 (D.getI d)) ls) : Int))], [{ sh := Sh.one, dyn := false, frz := false, v := .dat (.fn (Fn.func 24) [] []) }]) else some ([.dat (.int .i64 (-1 : Int))], [{ sh := Sh.one, dyn := false, frz := false, v := .dat (.fn (Fn.func 24) [] []) }])) else none) := by kernel_rfl
theorem ib_case0 (ls : List D) : runF (envOf tab ([(33, C_nplain)]) [] [(2, L_ib)] []) true Tryd.f43 [.dat (.slc .one ls), (.fn (.func 33) [] [.ptr .one 0 0 []])] ([⟨.one, false, false, .dat (.fn (.func 24) [] [])⟩]) = FunT.run S_ib [.dat (.slc .one ls), (.fn (.func 33) [] [.ptr .one 0 0 []])] ([⟨.one, false, false, .dat (.fn (.func 24) [] [])⟩]) := (ib_raw0 ls).trans (cong2 (cond_cases (fun h0 => (by (try rw [h0]) <;> rfl)) (fun h0 => (by (try rw [h0]) <;> rfl))) rfl)
theorem ib_ok : FunOk Tryd.prog 43 (FunT.run S_ib) := by
  refine fun_ok (E := envOf tab ([(33, C_nplain)]) [] [(2, L_ib)] []) (fz := true) (fn := Tryd.f43) (envOf_ok progOk (.cons cnplain_ok (.nil _))) (by kernel_rfl) (by kernel_rfl) (loops_one (by kernel_rfl) (ib_loopOk _ rfl)) ?_
  intro args σ r h
  unfold S_ib at h
  split at h
  · exact (ib_case0 _).trans h
  · simp [T.run_fail] at h
def C_ib : FunT := fun args σ => match args, σ with
  | [.dat (.slc .one ls), (.fn (.func 33) [] [.ptr .one 0 0 []])], ([⟨.one, false, false, .dat (.fn (.func 24) [] [])⟩]) => .chk (ib_okL  ls) (.leaf ([.dat (.int .i64 (ib_idx  ls))], ([⟨.one, false, false, .dat (.fn (.func 24) [] [])⟩])))
  | _, _ => .fail
theorem cib_ok : FunOk Tryd.prog 43 (FunT.run C_ib) := ib_ok.of (by
  intro args σ r h
  unfold C_ib at h
  split at h
  · rename_i ls
    obtain ⟨hc, h'⟩ := T.chk_some h
    rw [← T.leaf_some h']
    unfold S_ib ib_idx
    simp only [hc, decide_true, Bool.and_true, T.run_chk, T.run_leaf, cond_true]
    all_goals (cases ls.any ((fun d => nplain_v0 (D.getI d))) <;> rfl)
  · simp [T.run_fail] at h)
abbrev SpA : Specs := [(43, C_ib)]
theorem SpA_ok : SpecsOk Tryd.prog SpA := .cons cib_ok (.nil _)
def cfb_v0 (ls : List D) : Bool := decide (ib_idx ls ≥ 0)
def C_cfb : FunT := fun args σ => match args, σ with
  | [AV.dat (D.slc Sh.one ls), AV.fn (Fn.func 33) [] [AV.ptr Sh.one 0 0 []]], [{ sh := Sh.one, dyn := false, frz := false, v := AV.dat (D.fn (Fn.func 24) [] []) }] => .chk (ib_okL ls) (.leaf ([AV.dat (D.bool (cfb_v0 ls))], [{ sh := Sh.one, dyn := false, frz := false, v := AV.dat (D.fn (Fn.func 24) [] []) }]))
  | _, _ => .fail
theorem cfb_raw0 (ls : List D) : runF (envOf tab SpA [] [] []) true Tryd.f34 [.dat (.slc .one ls), .fn (.func 33) [] [.ptr .one 0 0 []]] npB =
  (bif ib_okL ls then some ([.dat (.bool (decide (ib_idx ls ≥ 0)))], [{ sh := Sh.one, dyn := false, frz := false, v := .dat (.fn (Fn.func 24) [] []) }]) else none) := by kernel_rfl
theorem cfb_case0 (ls : List D) : runF (envOf tab SpA [] [] []) true Tryd.f34 [.dat (.slc .one ls), .fn (.func 33) [] [.ptr .one 0 0 []]] npB = FunT.run C_cfb [.dat (.slc .one ls), .fn (.func 33) [] [.ptr .one 0 0 []]] npB := (cfb_raw0 ls).trans (by
  show _ = (cond (ib_okL ls) (some (([.dat (.bool (decide (ib_idx ls ≥ 0)))], [{ sh := Sh.one, dyn := false, frz := false, v := .dat (.fn (Fn.func 24) [] []) }]) : Res)) none)
  generalize (ib_okL ls) = z0
  cases z0 with
  | true =>
   rfl
  | false =>
   rfl
  )
theorem ccfb_ok : FunOk Tryd.prog 34 (FunT.run C_cfb) := by
  refine fun_ok (E := envOf tab SpA [] [] []) (fz := true) (fn := Tryd.f34) (envOf_ok progOk SpA_ok) (by kernel_rfl) (by kernel_rfl) (loops_none (by kernel_rfl)) ?_
  intro args σ r h
  unfold C_cfb at h
  split at h
  · exact (cfb_case0 _).trans h
  · simp [T.run_fail] at h
def nall_v0 (s : ByteArray) : Bool := !cfb_v0 (seg (bytesD s) 0 (List.length (bytesD s)))
def nall_pre (s : ByteArray) : Bool := decide (ByteArray.size s ≤ 35184372088832) && (fits Sh.one (bytesD s) && (Nat.beq (List.length (bytesD s)) (List.length (bytesD s)) && ib_okL (seg (bytesD s) 0 (List.length (bytesD s)))))
def C_nall : FunT := fun args σ => match args, σ with
  | [AV.dat (D.str s), AV.dat (D.fn (Fn.func 24) [] [])], [] => .chk ((nall_pre s)) (.leaf ([AV.dat (D.bool (nall_v0 s))], []))
  | _, _ => .fail
theorem nall_raw0 (s : ByteArray) : runF (envOf tab [(34, C_cfb)] [] [] []) true Tryd.f23 [.dat (.str s), .dat (.fn (.func 24) [] [])] [] =
  (bif decide (ByteArray.size s ≤ 35184372088832) then
   (bif fits Sh.one (bytesD s) then
    (bif Nat.beq (List.length (bytesD s)) (List.length (bytesD s)) then
     (bif ib_okL (seg (bytesD s) 0 (List.length (bytesD s))) then some ([.dat (.bool !cfb_v0 (seg (bytesD s) 0 (List.length (bytesD s))))], []) else none) else none) else none) else none) := by kernel_rfl
theorem nall_case0 (s : ByteArray) : runF (envOf tab [(34, C_cfb)] [] [] []) true Tryd.f23 [.dat (.str s), .dat (.fn (.func 24) [] [])] [] = FunT.run C_nall [.dat (.str s), .dat (.fn (.func 24) [] [])] [] := (nall_raw0 s).trans (by
  show _ = (cond (decide (ByteArray.size s ≤ 35184372088832) && (fits Sh.one (bytesD s) && (Nat.beq (List.length (bytesD s)) (List.length (bytesD s)) && ib_okL (seg (bytesD s) 0 (List.length (bytesD s)))))) (some (([.dat (.bool !cfb_v0 (seg (bytesD s) 0 (List.length (bytesD s))))], []) : Res)) none)
  generalize (decide (ByteArray.size s ≤ 35184372088832)) = z0
  generalize (ib_okL (seg (bytesD s) 0 (List.length (bytesD s)))) = z1
  generalize (Nat.beq (List.length (bytesD s)) (List.length (bytesD s))) = z2
  generalize (fits Sh.one (bytesD s)) = z3
  cases z0 with
  | true =>
   cases z3 with
   | true =>
    cases z2 with
    | true =>
     cases z1 with
     | true =>
      rfl
     | false =>
      rfl
    | false =>
     rfl
   | false =>
    rfl
  | false =>
   rfl
  )
theorem cnall_ok : FunOk Tryd.prog 23 (FunT.run C_nall) := by
  refine fun_ok (E := envOf tab [(34, C_cfb)] [] [] []) (fz := true) (fn := Tryd.f23) (envOf_ok progOk (.cons ccfb_ok (.nil _))) (by kernel_rfl) (by kernel_rfl) (loops_none (by kernel_rfl)) ?_
  intro args σ r h
  unfold C_nall at h
  split at h
  · exact (nall_case0 _).trans h
  · simp [T.run_fail] at h
def tl_fr (c : Int) : ByteArray → Frame' := fun s => mkF 17 [(0, .dat (.str s)), (1, .dat (.int .u8 c))]
def tl_st (_c : Int) : ByteArray → Store := fun _ => []
def tl_step (c : Int) : ByteArray → T (ByteArray ⊕ LOut) := fun s =>
  .chk (!decide (0 < (↑(ByteArray.size s) : Int)) || decide (0 < List.length (Array.toList (ByteArray.data s))) && (!(↑(UInt8.toNat (strAt s 0)) : Int) == c || decide (1 ≤ ByteArray.size s) && decide (ByteArray.size s ≤ ByteArray.size s))) (
   .br (!decide (0 < (↑(ByteArray.size s) : Int)) || !(↑(UInt8.toNat (strAt s 0)) : Int) == c) (.leaf (.inr ((some 0), mkF 17 [(0, .dat (.str s))], []))) (.leaf (.inl (subStr s 1 (ByteArray.size s)))))
theorem tl_round (lp : Loops) (c : Int) (s : ByteArray) (K : Kt) : oneRound (envOf tab [] [] lp []) Tryd.f35 0 (0) (mkF 17 [(0, .dat (.str s)), (1, .dat (.int .u8 c))]) ([]) K =
  (bif decide ((↑(ByteArray.size s) : Int) > 0) then
   (bif decide (0 < List.length (Array.toList (ByteArray.data s))) then
    (bif (↑(UInt8.toNat (strAt s 0)) : Int) == c then
     (bif decide (1 ≤ ByteArray.size s) && decide (ByteArray.size s ≤ ByteArray.size s) then K (Exit.normal) (mkF 17 [(0, .dat (.str (subStr s 1 (ByteArray.size s)))), (1, .dat (.int IntKind.u8 c)), (14, .dat (.str s)), (15, .dat (.str (subStr s 1 (ByteArray.size s))))]) ([]) else none) else K (Exit.exit 0) (mkF 17 [(0, .dat (.str s))]) ([])) else none) else K (Exit.exit 0) (mkF 17 [(0, .dat (.str s))]) ([])) := by kernel_rfl
theorem tl_hr (lp : Loops) (c : Int) : ∀ (sA : ByteArray) (K : Kt) (N : ByteArray → Option Res), (∀ sB fr' σ', cleanF (liveAt Tryd.f35 0) 0 fr' = tl_fr c sB → trim (0) (tl_fr c sB) σ' = tl_st c sB → K .normal fr' σ' = N sB) →
    oneRound (envOf tab [] [] lp []) Tryd.f35 0 (0) (tl_fr c sA) (tl_st c sA) K = (tl_step c sA).k (LK K N) := by
  intro s K N hN
  refine (tl_round lp c s K).trans ?_
  show _ = T.k ((
  .chk (!decide (0 < (↑(ByteArray.size s) : Int)) || decide (0 < List.length (Array.toList (ByteArray.data s))) && (!(↑(UInt8.toNat (strAt s 0)) : Int) == c || decide (1 ≤ ByteArray.size s) && decide (ByteArray.size s ≤ ByteArray.size s))) (
   .br (!decide (0 < (↑(ByteArray.size s) : Int)) || !(↑(UInt8.toNat (strAt s 0)) : Int) == c) (.leaf (.inr ((some 0), mkF 17 [(0, .dat (.str s))], []))) (.leaf (.inl (subStr s 1 (ByteArray.size s)))))) : T (ByteArray ⊕ LOut)) (LK K N)
  generalize (decide (1 ≤ ByteArray.size s) && decide (ByteArray.size s ≤ ByteArray.size s)) = z0
  generalize (decide (0 < List.length (Array.toList (ByteArray.data s)))) = z1
  generalize (decide (0 < (↑(ByteArray.size s) : Int))) = z2
  generalize ((↑(UInt8.toNat (strAt s 0)) : Int) == c) = z3
  cases z2 with
  | true =>
   cases z1 with
   | true =>
    cases z3 with
    | true =>
     cases z0 with
     | true =>
      exact hN _ _ _ (by kernel_rfl) (by kernel_rfl)
     | false =>
      rfl
    | false =>
     rfl
   | false =>
    rfl
  | false =>
   rfl
theorem tl_enter (c : Int) (s : ByteArray) (fr : Frame') (hl : Nat.beq fr.length 17 = true) (g0 : fr.getD 0 .undef = .dat (.str s)) (g1 : fr.getD 1 .undef = .dat (.int IntKind.u8 c)) : cleanF (liveAt Tryd.f35 0) 0 fr = tl_fr c s := by
  have e : liveAt Tryd.f35 0 = [1, 0] := by kernel_rfl
  rw [clean_mk (Nat.eq_of_beq_eq_true hl), e]
  show mkF 17 [(1, fr.getD 1 .undef), (0, fr.getD 0 .undef)] = _
  rw [g1, g0]
  kernel_rfl
def tr_fr (c : Int) : ByteArray → Frame' := fun s => mkF 23 [(0, .dat (.str s)), (1, .dat (.int .u8 c))]
def tr_st (_c : Int) : ByteArray → Store := fun _ => []
def tr_u0 (s : ByteArray) := IntKind.wrap IntKind.i64 ((↑(ByteArray.size s) : Int) - 1)
def tr_u1 (s : ByteArray) := UInt8.toNat (strAt s (Int.toNat (tr_u0 s)))
def tr_step (c : Int) : ByteArray → T (ByteArray ⊕ LOut) := fun s =>
  .chk (!decide (0 < (↑(ByteArray.size s) : Int)) || decide (0 ≤ (tr_u0 s)) && (decide (Int.toNat (tr_u0 s) < List.length (Array.toList (ByteArray.data s))) && (!(↑(tr_u1 s) : Int) == c || decide (Int.toNat (tr_u0 s) ≤ ByteArray.size s)))) (
   .br (!decide (0 < (↑(ByteArray.size s) : Int)) || !(↑(tr_u1 s) : Int) == c) (.leaf (.inr ((some 0), mkF 23 [(0, .dat (.str s))], []))) (.leaf (.inl (subStr s 0 (Int.toNat (tr_u0 s))))))
theorem tr_round (lp : Loops) (c : Int) (s : ByteArray) (K : Kt) : oneRound (envOf tab [] [] lp []) Tryd.f36 0 (0) (mkF 23 [(0, .dat (.str s)), (1, .dat (.int .u8 c))]) ([]) K =
  (bif decide ((↑(ByteArray.size s) : Int) > 0) then
   (bif decide (0 ≤ (tr_u0 s)) then
    (bif decide (Int.toNat (tr_u0 s) < List.length (Array.toList (ByteArray.data s))) then
     (bif (↑(tr_u1 s) : Int) == c then
      (bif decide (0 ≤ (tr_u0 s)) then
       (bif decide (Int.toNat (tr_u0 s) ≤ ByteArray.size s) then K (Exit.normal) (mkF 23 [(0, .dat (.str (subStr s 0 (Int.toNat (tr_u0 s))))), (1, .dat (.int IntKind.u8 c)), (17, .dat (.str s)), (18, .dat (.str s)), (19, .dat (.int .i64 (↑(ByteArray.size s) : Int))), (20, .dat (.int .i64 (tr_u0 s))), (21, .dat (.str (subStr s 0 (Int.toNat (tr_u0 s)))))]) ([]) else none) else none) else K (Exit.exit 0) (mkF 23 [(0, .dat (.str s))]) ([])) else none) else none) else K (Exit.exit 0) (mkF 23 [(0, .dat (.str s))]) ([])) := by kernel_rfl
theorem tr_hr (lp : Loops) (c : Int) : ∀ (sA : ByteArray) (K : Kt) (N : ByteArray → Option Res), (∀ sB fr' σ', cleanF (liveAt Tryd.f36 0) 0 fr' = tr_fr c sB → trim (0) (tr_fr c sB) σ' = tr_st c sB → K .normal fr' σ' = N sB) →
    oneRound (envOf tab [] [] lp []) Tryd.f36 0 (0) (tr_fr c sA) (tr_st c sA) K = (tr_step c sA).k (LK K N) := by
  intro s K N hN
  refine (tr_round lp c s K).trans ?_
  show _ = T.k ((
  .chk (!decide (0 < (↑(ByteArray.size s) : Int)) || decide (0 ≤ (tr_u0 s)) && (decide (Int.toNat (tr_u0 s) < List.length (Array.toList (ByteArray.data s))) && (!(↑(tr_u1 s) : Int) == c || decide (Int.toNat (tr_u0 s) ≤ ByteArray.size s)))) (
   .br (!decide (0 < (↑(ByteArray.size s) : Int)) || !(↑(tr_u1 s) : Int) == c) (.leaf (.inr ((some 0), mkF 23 [(0, .dat (.str s))], []))) (.leaf (.inl (subStr s 0 (Int.toNat (tr_u0 s))))))) : T (ByteArray ⊕ LOut)) (LK K N)
  generalize (decide (Int.toNat (tr_u0 s) < List.length (Array.toList (ByteArray.data s)))) = z0
  generalize (decide (0 ≤ (tr_u0 s))) = z1
  generalize (decide (Int.toNat (tr_u0 s) ≤ ByteArray.size s)) = z2
  generalize ((↑(tr_u1 s) : Int) == c) = z3
  generalize (decide (0 < (↑(ByteArray.size s) : Int))) = z4
  cases z4 with
  | true =>
   cases z1 with
   | true =>
    cases z0 with
    | true =>
     cases z3 with
     | true =>
      cases z2 with
      | true =>
       exact hN _ _ _ (by kernel_rfl) (by kernel_rfl)
      | false =>
       rfl
     | false =>
      rfl
    | false =>
     rfl
   | false =>
    rfl
  | false =>
   rfl
theorem tr_enter (c : Int) (s : ByteArray) (fr : Frame') (hl : Nat.beq fr.length 23 = true) (g0 : fr.getD 0 .undef = .dat (.str s)) (g1 : fr.getD 1 .undef = .dat (.int IntKind.u8 c)) : cleanF (liveAt Tryd.f36 0) 0 fr = tr_fr c s := by
  have e : liveAt Tryd.f36 0 = [1, 0] := by kernel_rfl
  rw [clean_mk (Nat.eq_of_beq_eq_true hl), e]
  show mkF 23 [(1, fr.getD 1 .undef), (0, fr.getD 0 .undef)] = _
  rw [g1, g0]
  kernel_rfl
end Go.Proofs.YtggellmbhgkckaaDoor
