/- Seat 17: letters and their rows. -/
import Derived.Test.YtggellmbhgkckaaDoorB
namespace Go.Proofs.YtggellmbhgkckaaDoor
open Go.AX
set_option maxRecDepth 100000
def isn_v0 (n : Int) : Bool := decide (0 ≤ n) && decide (n ≤ 127)
def C_isn : FunT := fun args σ => match args, σ with
  | [AV.dat (D.int IntKind.i64 n)], [] => .leaf ([AV.dat (D.bool (isn_v0 n))], [])
  | _, _ => .fail
theorem isn_raw0 (n : Int) : runF (envOf tab [] [] [] []) true Tryd.f22 [.dat (.int .i64 n)] [] =
  (bif decide (n ≥ 0) then some ([.dat (.bool (decide (n ≤ 127)))], []) else some ([.dat (.bool false)], [])) := by kernel_rfl
theorem isn_case0 (n : Int) : runF (envOf tab [] [] [] []) true Tryd.f22 [.dat (.int .i64 n)] [] = FunT.run C_isn [.dat (.int .i64 n)] [] := (isn_raw0 n).trans (by
  show _ = (some (([.dat (.bool (decide (0 ≤ n) && decide (n ≤ 127)))], []) : Res))
  generalize (decide (0 ≤ n)) = z0
  cases z0 with
  | true =>
   rfl
  | false =>
   rfl
  )
theorem cisn_ok : FunOk Tryd.prog 22 (FunT.run C_isn) := by
  refine fun_ok (E := envOf tab [] [] [] []) (fz := true) (fn := Tryd.f22) (envOf_ok progOk (.nil _)) (by kernel_rfl) (by kernel_rfl) (loops_none (by kernel_rfl)) ?_
  intro args σ r h
  unfold C_isn at h
  split at h
  · exact (isn_case0 _).trans h
  · simp [T.run_fail] at h
def nums_v0 (la : Int) (fm : Int) (to : Int) : Bool := isn_v0 la && (isn_v0 fm && isn_v0 to)
def C_nums : FunT := fun args σ => match args, σ with
  | [AV.dat (D.agg [D.bool _, D.int IntKind.i64 la, D.int IntKind.i64 fm, D.int IntKind.i64 to, D.str _])], [] => .leaf ([AV.dat (D.bool (nums_v0 la fm to))], [])
  | _, _ => .fail
theorem nums_raw0 (u : Bool) (la fm to : Int) (s : ByteArray) : runF (envOf tab [(22, C_isn)] [] [] []) true Tryd.f11 [.dat (.agg [.bool u, .int .i64 la, .int .i64 fm, .int .i64 to, .str s])] [] =
  (bif isn_v0 la then
   (bif isn_v0 fm then some ([.dat (.bool (isn_v0 to))], []) else some ([.dat (.bool false)], [])) else some ([.dat (.bool false)], [])) := by kernel_rfl
theorem nums_case0 (u : Bool) (la fm to : Int) (s : ByteArray) : runF (envOf tab [(22, C_isn)] [] [] []) true Tryd.f11 [.dat (.agg [.bool u, .int .i64 la, .int .i64 fm, .int .i64 to, .str s])] [] = FunT.run C_nums [.dat (.agg [.bool u, .int .i64 la, .int .i64 fm, .int .i64 to, .str s])] [] := (nums_raw0 u la fm to s).trans (by
  show _ = (some (([.dat (.bool (isn_v0 la && (isn_v0 fm && isn_v0 to)))], []) : Res))
  generalize (isn_v0 fm) = z0
  generalize (isn_v0 la) = z1
  cases z1 with
  | true =>
   cases z0 with
   | true =>
    rfl
   | false =>
    rfl
  | false =>
   rfl
  )
theorem cnums_ok : FunOk Tryd.prog 11 (FunT.run C_nums) := by
  refine fun_ok (E := envOf tab [(22, C_isn)] [] [] []) (fz := true) (fn := Tryd.f11) (envOf_ok progOk (.cons cisn_ok (.nil _))) (by kernel_rfl) (by kernel_rfl) (loops_none (by kernel_rfl)) ?_
  intro args σ r h
  unfold C_nums at h
  split at h
  · exact (nums_case0 _ _ _ _ _).trans h
  · simp [T.run_fail] at h
def wr_v0 (u : Bool) (la : Int) (fm : Int) (to : Int) (s : ByteArray) : Bool := bif u then !nums_v0 la fm to || !text_v0 s else true != (u == false && (la == 0 && (fm == 0 && (to == 0 && (decide (Array.toList (ByteArray.data s) = []) && true)))))
def wr_pre (u : Bool) (la : Int) (fm : Int) (to : Int) (s : ByteArray) : Bool := !u || (!nums_v0 la fm to || text_pre s)
def C_wr : FunT := fun args σ => match args, σ with
  | [AV.dat (D.agg [D.bool u, D.int IntKind.i64 la, D.int IntKind.i64 fm, D.int IntKind.i64 to, D.str s])], [] => .chk ((wr_pre u la fm to s)) (.leaf ([AV.dat (D.bool (wr_v0 u la fm to s))], []))
  | _, _ => .fail
theorem wr_raw0 (u : Bool) (la fm to : Int) (s : ByteArray) : runF (envOf tab [(11, C_nums), (12, C_text)] [] [] []) true Tryd.f17 [.dat (.agg [.bool u, .int .i64 la, .int .i64 fm, .int .i64 to, .str s])] [] =
  (bif !u then some ([.dat (.bool (true != (u == false && (la == 0 && (fm == 0 && (to == 0 && (decide (Array.toList (ByteArray.data s) = []) && true)))))))], []) else
   (bif !nums_v0 la fm to then some ([.dat (.bool true)], []) else
    (bif text_pre s then some ([.dat (.bool !text_v0 s)], []) else none))) := by kernel_rfl
theorem wr_case0 (u : Bool) (la fm to : Int) (s : ByteArray) : runF (envOf tab [(11, C_nums), (12, C_text)] [] [] []) true Tryd.f17 [.dat (.agg [.bool u, .int .i64 la, .int .i64 fm, .int .i64 to, .str s])] [] = FunT.run C_wr [.dat (.agg [.bool u, .int .i64 la, .int .i64 fm, .int .i64 to, .str s])] [] := (wr_raw0 u la fm to s).trans (by
  show _ = (cond (!u || (!nums_v0 la fm to || text_pre s)) (some (([.dat (.bool (bif u then !nums_v0 la fm to || !text_v0 s else true != (u == false && (la == 0 && (fm == 0 && (to == 0 && (decide (Array.toList (ByteArray.data s) = []) && true)))))))], []) : Res)) none)
  generalize (nums_v0 la fm to) = z0
  generalize (text_pre s) = z1
  generalize (u) = z2
  cases z2 with
  | true =>
   cases z0 with
   | true =>
    cases z1 with
    | true =>
     rfl
    | false =>
     rfl
   | false =>
    rfl
  | false =>
   rfl
  )
theorem cwr_ok : FunOk Tryd.prog 17 (FunT.run C_wr) := by
  refine fun_ok (E := envOf tab [(11, C_nums), (12, C_text)] [] [] []) (fz := true) (fn := Tryd.f17) (envOf_ok progOk (.cons cnums_ok (.cons ctext_ok (.nil _)))) (by kernel_rfl) (by kernel_rfl) (loops_none (by kernel_rfl)) ?_
  intro args σ r h
  unfold C_wr at h
  split at h
  · exact (wr_case0 _ _ _ _ _).trans h
  · simp [T.run_fail] at h
abbrev fI (d : D) (i : Nat) : Int := D.getI (nthD (D.getL d) i)
abbrev fU (d : D) : Bool := D.getB (nthD (D.getL d) 0)
abbrev fS (d : D) : ByteArray := D.getS (nthD (D.getL d) 4)
abbrev wrD (d : D) : Bool := wr_v0 (fU d) (fI d 1) (fI d 2) (fI d 3) (fS d)
def iw_fr (ls : List D) (n : Int) : Int → Frame' := fun i => mkF 19 [(0, .dat (.slc s23 ls)), (1, (.dat (.fn (.func 17) [] []))), (7, .dat (.int .i64 n)), (8, .dat (.int .i64 i))]
def iw_st (_ls : List D) (_n : Int) : Int → Store := fun _ => ([])
def iw_step (ls : List D) (n : Int) : Int → T (Int ⊕ LOut) := fun i =>
  .br (decide (i < n)) (
   .chk (decide (0 ≤ i)) (
    .chk (decide (Int.toNat i < List.length ls)) (
     .chk (okE (k23) (nthD ls (Int.toNat i))) (
      .chk (wr_pre (D.getB (nthD (D.getL (nthD ls (Int.toNat i))) 0)) (D.getI (nthD (D.getL (nthD ls (Int.toNat i))) 1)) (D.getI (nthD (D.getL (nthD ls (Int.toNat i))) 2)) (D.getI (nthD (D.getL (nthD ls (Int.toNat i))) 3)) (D.getS (nthD (D.getL (nthD ls (Int.toNat i))) 4))) (
       .br (wr_v0 (D.getB (nthD (D.getL (nthD ls (Int.toNat i))) 0)) (D.getI (nthD (D.getL (nthD ls (Int.toNat i))) 1)) (D.getI (nthD (D.getL (nthD ls (Int.toNat i))) 2)) (D.getI (nthD (D.getL (nthD ls (Int.toNat i))) 3)) (D.getS (nthD (D.getL (nthD ls (Int.toNat i))) 4))) (.leaf (.inr (none, mkF 19 [(4, .dat (.int .i64 i))], []))) (.leaf (.inl (IntKind.wrap IntKind.i64 (i + 1))))))))) (.leaf (.inr ((some 0), mkF 19 [], [])))
theorem iw_round (lp : Loops) (ls : List D) (n : Int) (i : Int) (K : Kt) : oneRound (envOf tab ([(17, C_wr)]) [] lp []) Tryd.f31 0 (0) (mkF 19 [(0, .dat (.slc s23 ls)), (1, (.dat (.fn (.func 17) [] []))), (7, .dat (.int .i64 n)), (8, .dat (.int .i64 i))]) (([])) K =
  (bif decide (i < n) then
   (bif decide (0 ≤ i) then
    (bif decide (Int.toNat i < List.length ls) then
     (bif okE (k23) (nthD ls (Int.toNat i)) then
      (bif wr_pre (D.getB (nthD (D.getL (nthD ls (Int.toNat i))) 0)) (D.getI (nthD (D.getL (nthD ls (Int.toNat i))) 1)) (D.getI (nthD (D.getL (nthD ls (Int.toNat i))) 2)) (D.getI (nthD (D.getL (nthD ls (Int.toNat i))) 3)) (D.getS (nthD (D.getL (nthD ls (Int.toNat i))) 4)) then
       (bif wr_v0 (D.getB (nthD (D.getL (nthD ls (Int.toNat i))) 0)) (D.getI (nthD (D.getL (nthD ls (Int.toNat i))) 1)) (D.getI (nthD (D.getL (nthD ls (Int.toNat i))) 2)) (D.getI (nthD (D.getL (nthD ls (Int.toNat i))) 3)) (D.getS (nthD (D.getL (nthD ls (Int.toNat i))) 4)) then K (Exit.ret) (mkF 19 [(4, .dat (.int .i64 i))]) ([]) else K (Exit.normal) (mkF 19 [(0, .dat (.slc (s23) ls)), (1, .dat (.fn (Fn.func 17) [] [])), (7, .dat (.int .i64 n)), (8, .dat (.int .i64 (IntKind.wrap IntKind.i64 (i + 1)))), (9, .dat (.bool (decide (i < n)))), (18, .dat (.int .i64 (IntKind.wrap IntKind.i64 (i + 1))))]) ([])) else none) else none) else none) else none) else K (Exit.exit 0) (mkF 19 []) ([])) := by kernel_rfl
theorem iw_hr (lp : Loops) (ls : List D) (n : Int) : ∀ (sA : Int) (K : Kt) (N : Int → Option Res), (∀ sB fr' σ', cleanF (liveAt Tryd.f31 0) 0 fr' = iw_fr ls n sB → trim (0) (iw_fr ls n sB) σ' = iw_st ls n sB → K .normal fr' σ' = N sB) →
    oneRound (envOf tab ([(17, C_wr)]) [] lp []) Tryd.f31 0 (0) (iw_fr ls n sA) (iw_st ls n sA) K = (iw_step ls n sA).k (LK K N) := by
  intro i K N hN
  exact (iw_round lp ls n i K).trans (cong2 (cong2 (cong2 (cong2 (cong2 (cong2 rfl (hN (IntKind.wrap IntKind.i64 (i + 1)) _ _ (by kernel_rfl) (by kernel_rfl))) rfl) rfl) rfl) rfl) rfl)
theorem iw_enter (ls : List D) (n : Int) (i : Int) (fr : Frame') (hl : Nat.beq fr.length 19 = true) (g0 : fr.getD 0 .undef = .dat (.slc (s23) ls)) (g1 : fr.getD 1 .undef = .dat (.fn (Fn.func 17) [] [])) (g7 : fr.getD 7 .undef = .dat (.int .i64 n)) (g8 : fr.getD 8 .undef = .dat (.int .i64 i)) : cleanF (liveAt Tryd.f31 0) 0 fr = iw_fr ls n i := by
  have e : liveAt Tryd.f31 0 = [7, 1, 0, 8] := by kernel_rfl
  rw [clean_mk (Nat.eq_of_beq_eq_true hl), e]
  show mkF 19 [(7, fr.getD 7 .undef), (1, fr.getD 1 .undef), (0, fr.getD 0 .undef), (8, fr.getD 8 .undef)] = _
  rw [g7, g1, g0, g8]
  kernel_rfl
def iw_idx  (ls : List D) : Int := bif ls.any (wrD) then ((ls.findIdx (wrD) : Nat) : Int) else -1
def iw_okL  (ls : List D) : Bool := ls.all ((fun d => okE (.agg [.bool, .int .i64, .int .i64, .int .i64, .str]) d && wr_pre (fU d) (fI d 1) (fI d 2) (fI d 3) (fS d))) && decide (ls.length ≤ 1099511627776)
theorem iw_closed (ls : List D) (n : Int)  (hc : (decide (n = (ls.length : Int)) && iw_okL  ls) = true) :
    ∃ m, (iterT (iw_step ls n ) m 0).run = T.run (.br (ls.any (wrD)) (.leaf (none, mkF 19 [(4, .dat (.int .i64 (ls.findIdx (wrD) : Nat)))], ([]))) (.leaf (some 0, mkF 19 [], ([])))) := by
  unfold iw_okL at hc
  simp only [Bool.and_eq_true, decide_eq_true_eq] at hc
  obtain ⟨rfl, h1, h2⟩ := hc
  obtain ⟨m, hm⟩ := iter_find (step := iw_step ls ls.length ) (ls := ls) (p := wrD) (o := fun k => (none, mkF 19 [(4, .dat (.int .i64 (k : Int)))], ([]))) (o' := (some 0, mkF 19 [], ([])))
    (fun k hk => by
      have hq := List.all_eq_true.1 h1 _ (nthD_mem hk)
      try simp only [Bool.and_eq_true] at hq
      unfold iw_step
      simp only [decide_eq_true (show (k : Int) < (ls.length : Int) by omega), decide_eq_true (show (0 : Int) ≤ (k : Int) by omega), Int.toNat_natCast, decide_eq_true hk, hq, wrap_succ (show k < 2 ^ 62 by omega), T.run_br, T.run_chk, T.run_leaf, cond_true]
      exact bif_some ((wrD) (nthD ls k)) _ _)
    (by
      unfold iw_step
      rw [decide_eq_false (show ¬ (ls.length : Int) < (ls.length : Int) by omega)]
      rfl)
  refine ⟨m, hm.trans ?_⟩
  cases ls.any (wrD) <;> rfl
def L_iw : Frame' → Store → T (Exit × Frame' × Store) := fun fr σ => match fr.getD 0 .undef, fr.getD 1 .undef, fr.getD 7 .undef, fr.getD 8 .undef, σ with
  | AV.dat (D.slc (Sh.agg [Sh.one, Sh.one, Sh.one, Sh.one, Sh.one]) ls), AV.dat (D.fn (Fn.func 17) [] []), AV.dat (D.int IntKind.i64 n), AV.dat (D.int IntKind.i64 0), [] => .chk (Nat.beq fr.length 19 && (decide (n = (ls.length : Int)) && iw_okL  ls)) (T.bind (.br (ls.any (wrD)) (.leaf (none, mkF 19 [(4, .dat (.int .i64 (ls.findIdx (wrD) : Nat)))], ([]))) (.leaf (some 0, mkF 19 [], ([])))) fun o => .leaf (outEx o.1, o.2.1, o.2.2))
  | _, _, _, _, _ => .fail
theorem iw_sem (lp : Loops) : ∀ fr σ p, (L_iw fr σ).run = some p → ∀ (K : Kt) r, K p.1 p.2.1 p.2.2 = some r → ∃ n, loopRun (envOf tab ([(17, C_wr)]) [] lp []) Tryd.f31 0 σ.length n (cleanF (liveAt Tryd.f31 0) 0 fr) σ K = some r := by
  intro fr σ p h K r hK
  unfold L_iw at h
  split at h
  · rename_i ls n g0 g1 g7 g8
    obtain ⟨hc, h'⟩ := T.chk_some h
    rw [Bool.and_eq_true] at hc
    obtain ⟨hl, hc⟩ := hc
    obtain ⟨o, ho, h'⟩ := T.bind_some h'
    have hp := T.leaf_some h'
    subst hp
    obtain ⟨nF, hn⟩ : ∃ nF, (iterT (iw_step ls n) nF (0)).run = T.run (.br (ls.any (wrD)) (.leaf (none, mkF 19 [(4, .dat (.int .i64 (ls.findIdx (wrD) : Nat)))], ([]))) (.leaf (some 0, mkF 19 [], ([])))) := iw_closed ls n  hc
    rw [ho] at hn
    refine ⟨nF, ?_⟩
    have he : cleanF (liveAt Tryd.f31 0) 0 fr = iw_fr ls n (0) := iw_enter ls n _ fr hl g0 g1 g7 g8
    refine (iter_ok (base := 0) (iw_hr lp ls n) K nF (0) _ _ (by rw [clean_clean]; exact he) (by kernel_rfl)).trans ?_
    rw [T.k_run hn]
    exact hK
  · simp [T.run_fail] at h
theorem iw_loopOk {k : Nat} (lp : Loops) (hk : Loops.get lp 2 = some L_iw) : LoopOkN Tryd.prog k (envOf tab ([(17, C_wr)]) [] lp []) (loopAt Tryd.f31 0).1 (loopAt Tryd.f31 0).2 := loop_okN (L := L_iw) (by kernel_rfl) hk (iw_sem lp)
def S_iw : FunT := fun args σ => match args, σ with
  | [AV.dat (D.slc (Sh.agg [Sh.one, Sh.one, Sh.one, Sh.one, Sh.one]) ls), AV.dat (D.fn (Fn.func 17) [] [])], [] =>
    .chk (decide ((↑(List.length ls) : Int) = (↑(List.length ls) : Int)) && iw_okL ls) (.leaf ([.dat (.int .i64 (bif List.any ls wrD then (↑(List.findIdx wrD ls) : Int) else (-1 : Int)))], []))
  | _, _ => .fail
theorem iw_raw0 (ls : List D) : runF (envOf tab ([(17, C_wr)]) [] [(2, L_iw)] []) true Tryd.f31 [.dat (.slc s23 ls), (.dat (.fn (.func 17) [] []))] ([]) =
  (bif decide ((↑(List.length ls) : Int) = (↑(List.length ls) : Int)) && iw_okL ls then
   (bif List.any ls wrD then some ([.dat (.int .i64 (↑(List.findIdx wrD ls) : Int))], []) else some ([.dat (.int .i64 (-1 : Int))], [])) else none) := by kernel_rfl
theorem iw_case0 (ls : List D) : runF (envOf tab ([(17, C_wr)]) [] [(2, L_iw)] []) true Tryd.f31 [.dat (.slc s23 ls), (.dat (.fn (.func 17) [] []))] ([]) = FunT.run S_iw [.dat (.slc s23 ls), (.dat (.fn (.func 17) [] []))] ([]) := (iw_raw0 ls).trans (cong2 (cond_cases (fun h0 => (by (try rw [h0]) <;> rfl)) (fun h0 => (by (try rw [h0]) <;> rfl))) rfl)
theorem iw_ok : FunOk Tryd.prog 31 (FunT.run S_iw) := by
  refine fun_ok (E := envOf tab ([(17, C_wr)]) [] [(2, L_iw)] []) (fz := true) (fn := Tryd.f31) (envOf_ok progOk (.cons cwr_ok (.nil _))) (by kernel_rfl) (by kernel_rfl) (loops_one (by kernel_rfl) (iw_loopOk _ rfl)) ?_
  intro args σ r h
  unfold S_iw at h
  split at h
  · exact (iw_case0 _).trans h
  · simp [T.run_fail] at h
def C_iw : FunT := fun args σ => match args, σ with
  | [.dat (.slc (.agg [.one, .one, .one, .one, .one]) ls), (.dat (.fn (.func 17) [] []))], ([]) => .chk (iw_okL  ls) (.leaf ([.dat (.int .i64 (iw_idx  ls))], ([])))
  | _, _ => .fail
theorem ciw_ok : FunOk Tryd.prog 31 (FunT.run C_iw) := iw_ok.of (by
  intro args σ r h
  unfold C_iw at h
  split at h
  · rename_i ls
    obtain ⟨hc, h'⟩ := T.chk_some h
    rw [← T.leaf_some h']
    unfold S_iw iw_idx
    simp only [hc, decide_true, Bool.and_true, T.run_chk, T.run_leaf, cond_true]
    all_goals (cases ls.any (wrD) <;> rfl)
  · simp [T.run_fail] at h)
def cfi_v0 (ls : List D) : Bool := decide (iw_idx ls ≥ 0)
def C_cfi : FunT := fun args σ => match args, σ with
  | [AV.dat (D.slc (Sh.agg [Sh.one, Sh.one, Sh.one, Sh.one, Sh.one]) ls), AV.dat (D.fn (Fn.func 17) [] [])], [] => .chk (iw_okL ls) (.leaf ([AV.dat (D.bool (cfi_v0 ls))], []))
  | _, _ => .fail
theorem cfi_raw0 (ls : List D) : runF (envOf tab [(31, C_iw)] [] [] []) true Tryd.f16 [.dat (.slc s23 ls), .dat (.fn (.func 17) [] [])] [] =
  (bif iw_okL ls then some ([.dat (.bool (decide (iw_idx ls ≥ 0)))], []) else none) := by kernel_rfl
theorem cfi_case0 (ls : List D) : runF (envOf tab [(31, C_iw)] [] [] []) true Tryd.f16 [.dat (.slc s23 ls), .dat (.fn (.func 17) [] [])] [] = FunT.run C_cfi [.dat (.slc s23 ls), .dat (.fn (.func 17) [] [])] [] := (cfi_raw0 ls).trans (by
  show _ = (cond (iw_okL ls) (some (([.dat (.bool (decide (iw_idx ls ≥ 0)))], []) : Res)) none)
  generalize (iw_okL ls) = z0
  cases z0 with
  | true =>
   rfl
  | false =>
   rfl
  )
theorem ccfi_ok : FunOk Tryd.prog 16 (FunT.run C_cfi) := by
  refine fun_ok (E := envOf tab [(31, C_iw)] [] [] []) (fz := true) (fn := Tryd.f16) (envOf_ok progOk (.cons ciw_ok (.nil _))) (by kernel_rfl) (by kernel_rfl) (loops_none (by kernel_rfl)) ?_
  intro args σ r h
  unfold C_cfi at h
  split at h
  · exact (cfi_case0 _).trans h
  · simp [T.run_fail] at h
def right_v0 (ls : List D) : Bool := !cfi_v0 ls
def C_right : FunT := fun args σ => match args, σ with
  | [AV.dat (D.slc (Sh.agg [Sh.one, Sh.one, Sh.one, Sh.one, Sh.one]) ls)], [] => .chk (iw_okL ls) (.leaf ([AV.dat (D.bool (right_v0 ls))], []))
  | _, _ => .fail
theorem right_raw0 (ls : List D) : runF (envOf tab [(16, C_cfi)] [] [] []) true Tryd.f8 [.dat (.slc s23 ls)] [] =
  (bif iw_okL ls then some ([.dat (.bool !cfi_v0 ls)], []) else none) := by kernel_rfl
theorem right_case0 (ls : List D) : runF (envOf tab [(16, C_cfi)] [] [] []) true Tryd.f8 [.dat (.slc s23 ls)] [] = FunT.run C_right [.dat (.slc s23 ls)] [] := (right_raw0 ls).trans (by
  show _ = (cond (iw_okL ls) (some (([.dat (.bool !cfi_v0 ls)], []) : Res)) none)
  generalize (iw_okL ls) = z0
  cases z0 with
  | true =>
   rfl
  | false =>
   rfl
  )
theorem cright_ok : FunOk Tryd.prog 8 (FunT.run C_right) := by
  refine fun_ok (E := envOf tab [(16, C_cfi)] [] [] []) (fz := true) (fn := Tryd.f8) (envOf_ok progOk (.cons ccfi_ok (.nil _))) (by kernel_rfl) (by kernel_rfl) (loops_none (by kernel_rfl)) ?_
  intro args σ r h
  unfold C_right at h
  split at h
  · exact (right_case0 _).trans h
  · simp [T.run_fail] at h
def C_itk : FunT := fun args σ => match args, σ with
  | [AV.dat (D.agg [D.bool u, D.int IntKind.i64 _, D.int IntKind.i64 _, D.int IntKind.i64 _, D.str _])], [] => .leaf ([AV.dat (D.bool u)], [])
  | _, _ => .fail
theorem itk_raw0 (u : Bool) (la fm to : Int) (s : ByteArray) : runF (envOf tab [] [] [] []) true Tryd.f27 [.dat (.agg [.bool u, .int .i64 la, .int .i64 fm, .int .i64 to, .str s])] [] =some ([.dat (.bool u)], []) := by kernel_rfl
theorem itk_case0 (u : Bool) (la fm to : Int) (s : ByteArray) : runF (envOf tab [] [] [] []) true Tryd.f27 [.dat (.agg [.bool u, .int .i64 la, .int .i64 fm, .int .i64 to, .str s])] [] = FunT.run C_itk [.dat (.agg [.bool u, .int .i64 la, .int .i64 fm, .int .i64 to, .str s])] [] := (itk_raw0 u la fm to s).trans (by
  show _ = (some (([.dat (.bool u)], []) : Res))
  rfl
  )
theorem citk_ok : FunOk Tryd.prog 27 (FunT.run C_itk) := by
  refine fun_ok (E := envOf tab [] [] [] []) (fz := true) (fn := Tryd.f27) (envOf_ok progOk (.nil _)) (by kernel_rfl) (by kernel_rfl) (loops_none (by kernel_rfl)) ?_
  intro args σ r h
  unfold C_itk at h
  split at h
  · exact (itk_case0 _ _ _ _ _).trans h
  · simp [T.run_fail] at h
abbrev irow (ds : List D) : Blk := ⟨.agg [.one, .one], false, false, .dat (.agg [.slc (.agg [.one, .one, .one, .one, .one]) ds, .fn (.func 27) [] []])⟩
theorem ic0  : runF (envOf tab [] [] [] []) true Tryd.f30 [.dat (.slc s23 [])] [] =some ([.dat (.slc (s23) [])], []) := by kernel_rfl
theorem ic1 (d : D) (ds : List D) : runF (envOf tab [] [] [] []) true Tryd.f30 [.dat (.slc s23 (d :: ds))] [] =
  (bif fits (s23) (d :: ds) then
   (bif decide ((0 + List.length (d :: ds)) * 48 ≤ 35184372088832) then
    (bif Nat.beq (List.length (d :: ds)) (0 + List.length (d :: ds)) then some ([.dat (.slc (s23) (seg (d :: ds) 0 (0 + List.length (d :: ds))))], []) else none) else none) else none) := by kernel_rfl
theorem icO1 (d : D) (ds : List D) : runF (envOf tab [] [] [] []) false Tryd.f30 [.dat (.slc s23 (d :: ds))] [] =
  (bif fits (s23) (d :: ds) then
   (bif decide ((0 + List.length (d :: ds)) * 48 ≤ 35184372088832) then some ([AV.sref (s23) 0 (0 + List.length (d :: ds)) [] 0 (0 + List.length (d :: ds))], [{ sh := Sh.arr (s23) 0, dyn := true, frz := false, v := .dat (.arr (s23) (d :: ds)) }]) else none) else none) := by kernel_rfl
def S_ic : FunT := fun args σ => match args, σ with
  | [.dat (.slc (.agg [.one, .one, .one, .one, .one]) ds)], [] => .chk (fits (.agg [.one, .one, .one, .one, .one]) ds && decide (ds.length * 48 ≤ LIM)) (.leaf ([.dat (.slc (.agg [.one, .one, .one, .one, .one]) ds)], []))
  | _, _ => .fail
theorem ic_ok : FunOk Tryd.prog 30 (FunT.run S_ic) := by
  refine fun_ok (E := envOf tab [] [] [] []) (fz := true) (fn := Tryd.f30) (envOf_ok progOk (.nil _)) (by kernel_rfl) (by kernel_rfl) (loops_none (by kernel_rfl)) ?_
  intro args σ r h
  unfold S_ic at h
  split at h
  · rename_i ds
    obtain ⟨hc, h'⟩ := T.chk_some h
    rw [← T.leaf_some h']
    simp only [Bool.and_eq_true, decide_eq_true_eq] at hc
    cases ds with
    | nil => exact ic0
    | cons d ds =>
      rw [ic1, hc.1, Nat.zero_add, decide_eq_true (show (d :: ds).length * 48 ≤ 35184372088832 from hc.2), beq_self, seg_full]; rfl
  · simp [T.run_fail] at h
def S_icO : FunT := fun args σ => match args, σ with
  | [.dat (.slc (.agg [.one, .one, .one, .one, .one]) ds)], [] => .chk (!ds.isEmpty && fits (.agg [.one, .one, .one, .one, .one]) ds && decide (ds.length * 48 ≤ LIM)) (.leaf ([.sref (.agg [.one, .one, .one, .one, .one]) 0 ds.length [] 0 ds.length], [mkDyn (.agg [.one, .one, .one, .one, .one]) ds]))
  | _, _ => .fail
theorem icO_ok : FunOk Tryd.prog 30 (FunT.run S_icO) := by
  refine fun_ok (E := envOf tab [] [] [] []) (fz := false) (fn := Tryd.f30) (envOf_ok progOk (.nil _)) (by kernel_rfl) (by kernel_rfl) (loops_none (by kernel_rfl)) ?_
  intro args σ r h
  unfold S_icO at h
  split at h
  · rename_i ds
    obtain ⟨hc, h'⟩ := T.chk_some h
    rw [← T.leaf_some h']
    simp only [Bool.and_eq_true, decide_eq_true_eq] at hc
    cases ds with
    | nil => simp at hc
    | cons d ds => rw [icO1, hc.1.2, Nat.zero_add, decide_eq_true (show (d :: ds).length * 48 ≤ 35184372088832 from hc.2)]; rfl
  · simp [T.run_fail] at h
def C_icB : FunT := fun args σ => match args, σ with
  | [.dat (.slc (.agg [.one, .one, .one, .one, .one]) [])], [] => .leaf ([.dat (.slc (.agg [.one, .one, .one, .one, .one]) [])], [])
  | [.dat (.slc (.agg [.one, .one, .one, .one, .one]) (d :: ds))], [] => .chk (fits (.agg [.one, .one, .one, .one, .one]) (d :: ds) && decide ((d :: ds).length * 48 ≤ LIM)) (.leaf ([.sref (.agg [.one, .one, .one, .one, .one]) 0 (d :: ds).length [] 0 (d :: ds).length], [mkDyn (.agg [.one, .one, .one, .one, .one]) (d :: ds)]))
  | _, _ => .fail
theorem cicB_ok : FunOk Tryd.prog 30 (FunT.run C_icB) := by
  intro w S m σ args vals res σ' hi hv hr
  unfold FunT.run C_icB at hr
  split at hr
  · exact ic_ok w S m _ _ vals res σ' hi hv hr
  · refine icO_ok w S m _ _ vals res σ' hi hv ?_
    exact hr
  · simp [T.run_fail] at hr
def iof_pre (ds : List D) : Bool := fits (s23) ds && decide (List.length ds * 48 ≤ 35184372088832)
def C_iof : FunT := fun args σ => match args, σ with
  | [AV.dat (D.slc (Sh.agg [Sh.one, Sh.one, Sh.one, Sh.one, Sh.one]) ds), AV.dat (D.fn (Fn.func f) [] [])], [] => .chk ((iof_pre ds)) (.leaf ([AV.ptr (Sh.agg [Sh.one, Sh.one]) 0 0 []], [{ sh := Sh.agg [Sh.one, Sh.one], dyn := false, frz := false, v := AV.dat (D.agg [D.slc (s23) ds, D.fn (Fn.func f) [] []]) }]))
  | _, _ => .fail
theorem iof_raw0 (ds : List D) (f : FuncId) : runF (envOf tab [(30, S_ic)] [] [] []) false Tryd.f26 [.dat (.slc s23 ds), .dat (.fn (.func f) [] [])] [] =
  (bif fits (s23) ds && decide (List.length ds * 48 ≤ 35184372088832) then some ([AV.ptr (Sh.agg [Sh.one, Sh.one]) 0 0 []], [{ sh := Sh.agg [Sh.one, Sh.one], dyn := false, frz := false, v := .dat (.agg [D.slc (s23) ds, D.fn (Fn.func f) [] []]) }]) else none) := by kernel_rfl
theorem iof_case0 (ds : List D) (f : FuncId) : runF (envOf tab [(30, S_ic)] [] [] []) false Tryd.f26 [.dat (.slc s23 ds), .dat (.fn (.func f) [] [])] [] = FunT.run C_iof [.dat (.slc s23 ds), .dat (.fn (.func f) [] [])] [] := (iof_raw0 ds f).trans (by
  show _ = (cond (fits (s23) ds && decide (List.length ds * 48 ≤ 35184372088832)) (some (([AV.ptr (Sh.agg [Sh.one, Sh.one]) 0 0 []], [{ sh := Sh.agg [Sh.one, Sh.one], dyn := false, frz := false, v := .dat (.agg [D.slc (s23) ds, D.fn (Fn.func f) [] []]) }]) : Res)) none)
  generalize (fits (s23) ds && decide (List.length ds * 48 ≤ 35184372088832)) = z0
  cases z0 with
  | true =>
   rfl
  | false =>
   rfl
  )
theorem ciof_ok : FunOk Tryd.prog 26 (FunT.run C_iof) := by
  refine fun_ok (E := envOf tab [(30, S_ic)] [] [] []) (fz := false) (fn := Tryd.f26) (envOf_ok progOk (.cons ic_ok (.nil _))) (by kernel_rfl) (by kernel_rfl) (loops_none (by kernel_rfl)) ?_
  intro args σ r h
  unfold C_iof at h
  split at h
  · exact (iof_case0 _ _).trans h
  · simp [T.run_fail] at h
def C_irw : FunT := fun args σ => match args, σ with
  | [AV.dat (D.slc (Sh.agg [Sh.one, Sh.one, Sh.one, Sh.one, Sh.one]) ds)], [] => .chk (iof_pre ds) (.leaf ([AV.ptr (Sh.agg [Sh.one, Sh.one]) 0 0 []], [{ sh := Sh.agg [Sh.one, Sh.one], dyn := false, frz := false, v := AV.dat (D.agg [D.slc (s23) ds, D.fn (Fn.func 27) [] []]) }]))
  | _, _ => .fail
theorem irw_raw0 (ds : List D) : runF (envOf tab [(26, C_iof)] [] [] []) false Tryd.f13 [.dat (.slc s23 ds)] [] =
  (bif iof_pre ds then some ([AV.ptr (Sh.agg [Sh.one, Sh.one]) 0 0 []], [{ sh := Sh.agg [Sh.one, Sh.one], dyn := false, frz := false, v := .dat (.agg [D.slc (s23) ds, D.fn (Fn.func 27) [] []]) }]) else none) := by kernel_rfl
theorem irw_case0 (ds : List D) : runF (envOf tab [(26, C_iof)] [] [] []) false Tryd.f13 [.dat (.slc s23 ds)] [] = FunT.run C_irw [.dat (.slc s23 ds)] [] := (irw_raw0 ds).trans (by
  show _ = (cond (iof_pre ds) (some (([AV.ptr (Sh.agg [Sh.one, Sh.one]) 0 0 []], [{ sh := Sh.agg [Sh.one, Sh.one], dyn := false, frz := false, v := .dat (.agg [D.slc (s23) ds, D.fn (Fn.func 27) [] []]) }]) : Res)) none)
  generalize (iof_pre ds) = z0
  cases z0 with
  | true =>
   rfl
  | false =>
   rfl
  )
theorem cirw_ok : FunOk Tryd.prog 13 (FunT.run C_irw) := by
  refine fun_ok (E := envOf tab [(26, C_iof)] [] [] []) (fz := false) (fn := Tryd.f13) (envOf_ok progOk (.cons ciof_ok (.nil _))) (by kernel_rfl) (by kernel_rfl) (loops_none (by kernel_rfl)) ?_
  intro args σ r h
  unfold C_irw at h
  split at h
  · exact (irw_case0 _).trans h
  · simp [T.run_fail] at h
def C_imd : FunT := fun args σ => match args, σ with
  | [AV.ptr (Sh.agg [Sh.one, Sh.one]) 0 0 []], [{ sh := Sh.agg [Sh.one, Sh.one], dyn := false, frz := false, v := AV.dat (D.agg [D.slc (Sh.agg [Sh.one, Sh.one, Sh.one, Sh.one, Sh.one]) ds, D.fn (Fn.func 27) [] []]) }] => .leaf ([AV.dat (D.bool true)], [{ sh := Sh.agg [Sh.one, Sh.one], dyn := false, frz := false, v := AV.dat (D.agg [D.slc (s23) ds, D.fn (Fn.func 27) [] []]) }])
  | _, _ => .fail
theorem imd_raw0 (ds : List D) : runF (envOf tab [] [] [] []) true Tryd.f29 [.ptr (.agg [.one, .one]) 0 0 []] [irow ds] =some ([.dat (.bool true)], [{ sh := Sh.agg [Sh.one, Sh.one], dyn := false, frz := false, v := .dat (.agg [D.slc (s23) ds, D.fn (Fn.func 27) [] []]) }]) := by kernel_rfl
theorem imd_case0 (ds : List D) : runF (envOf tab [] [] [] []) true Tryd.f29 [.ptr (.agg [.one, .one]) 0 0 []] [irow ds] = FunT.run C_imd [.ptr (.agg [.one, .one]) 0 0 []] [irow ds] := (imd_raw0 ds).trans (by
  show _ = (some (([.dat (.bool true)], [{ sh := Sh.agg [Sh.one, Sh.one], dyn := false, frz := false, v := .dat (.agg [D.slc (s23) ds, D.fn (Fn.func 27) [] []]) }]) : Res))
  rfl
  )
theorem cimd_ok : FunOk Tryd.prog 29 (FunT.run C_imd) := by
  refine fun_ok (E := envOf tab [] [] [] []) (fz := true) (fn := Tryd.f29) (envOf_ok progOk (.nil _)) (by kernel_rfl) (by kernel_rfl) (loops_none (by kernel_rfl)) ?_
  intro args σ r h
  unfold C_imd at h
  split at h
  · exact (imd_case0 _).trans h
  · simp [T.run_fail] at h
def ifr_v0 (u : Bool) : Bool := !u
def C_ifr : FunT := fun args σ => match args, σ with
  | [AV.dat (D.agg [D.bool u, D.int IntKind.i64 _, D.int IntKind.i64 _, D.int IntKind.i64 _, D.str _]), AV.ptr Sh.one 0 0 []], [{ sh := Sh.one, dyn := false, frz := false, v := AV.ptr (Sh.agg [Sh.one, Sh.one]) 1 0 [] }, { sh := Sh.agg [Sh.one, Sh.one], dyn := false, frz := false, v := AV.dat (D.agg [D.slc (Sh.agg [Sh.one, Sh.one, Sh.one, Sh.one, Sh.one]) ds, D.fn (Fn.func 27) [] []]) }] => .leaf ([AV.dat (D.bool (ifr_v0 u))], [{ sh := Sh.one, dyn := false, frz := false, v := AV.ptr (Sh.agg [Sh.one, Sh.one]) 1 0 [] }, { sh := Sh.agg [Sh.one, Sh.one], dyn := false, frz := false, v := AV.dat (D.agg [D.slc (s23) ds, D.fn (Fn.func 27) [] []]) }])
  | _, _ => .fail
theorem ifr_raw0 (u : Bool) (la fm to : Int) (s : ByteArray) (ds : List D) : runF (envOf tab [(27, C_itk)] [] [] []) true Tryd.f42 [.dat (.agg [.bool u, .int .i64 la, .int .i64 fm, .int .i64 to, .str s]), .ptr .one 0 0 []] [⟨.one, false, false, .ptr (.agg [.one, .one]) 1 0 []⟩, irow ds] =some ([.dat (.bool !u)], [{ sh := Sh.one, dyn := false, frz := false, v := AV.ptr (Sh.agg [Sh.one, Sh.one]) 1 0 [] }, { sh := Sh.agg [Sh.one, Sh.one], dyn := false, frz := false, v := .dat (.agg [D.slc (s23) ds, D.fn (Fn.func 27) [] []]) }]) := by kernel_rfl
theorem ifr_case0 (u : Bool) (la fm to : Int) (s : ByteArray) (ds : List D) : runF (envOf tab [(27, C_itk)] [] [] []) true Tryd.f42 [.dat (.agg [.bool u, .int .i64 la, .int .i64 fm, .int .i64 to, .str s]), .ptr .one 0 0 []] [⟨.one, false, false, .ptr (.agg [.one, .one]) 1 0 []⟩, irow ds] = FunT.run C_ifr [.dat (.agg [.bool u, .int .i64 la, .int .i64 fm, .int .i64 to, .str s]), .ptr .one 0 0 []] [⟨.one, false, false, .ptr (.agg [.one, .one]) 1 0 []⟩, irow ds] := (ifr_raw0 u la fm to s ds).trans (by
  show _ = (some (([.dat (.bool !u)], [{ sh := Sh.one, dyn := false, frz := false, v := AV.ptr (Sh.agg [Sh.one, Sh.one]) 1 0 [] }, { sh := Sh.agg [Sh.one, Sh.one], dyn := false, frz := false, v := .dat (.agg [D.slc (s23) ds, D.fn (Fn.func 27) [] []]) }]) : Res))
  rfl
  )
theorem cifr_ok : FunOk Tryd.prog 42 (FunT.run C_ifr) := by
  refine fun_ok (E := envOf tab [(27, C_itk)] [] [] []) (fz := true) (fn := Tryd.f42) (envOf_ok progOk (.cons citk_ok (.nil _))) (by kernel_rfl) (by kernel_rfl) (loops_none (by kernel_rfl)) ?_
  intro args σ r h
  unfold C_ifr at h
  split at h
  · exact (ifr_case0 _ _ _ _ _ _).trans h
  · simp [T.run_fail] at h
def ij_fr (ls : List D) (n : Int) (_ds : List D) : Int → Frame' := fun i => mkF 19 [(0, .dat (.slc s23 ls)), (1, (.fn (.func 42) [] [.ptr .one 0 0 []])), (7, .dat (.int .i64 n)), (8, .dat (.int .i64 i))]
def ij_st (_ls : List D) (_n : Int) (ds : List D) : Int → Store := fun _ => ([⟨.one, false, false, .ptr (.agg [.one, .one]) 1 0 []⟩, ⟨.agg [.one, .one], false, false, .dat (.agg [.slc s23 ds, .fn (.func 27) [] []])⟩])
def ij_step (ls : List D) (n : Int) (ds : List D) : Int → T (Int ⊕ LOut) := fun i =>
  .br (decide (i < n)) (
   .chk (decide (0 ≤ i)) (
    .chk (decide (Int.toNat i < List.length ls)) (
     .chk (okE (k23) (nthD ls (Int.toNat i))) (
      .br (ifr_v0 (D.getB (nthD (D.getL (nthD ls (Int.toNat i))) 0))) (.leaf (.inr (none, mkF 19 [(4, .dat (.int .i64 i))], [{ sh := Sh.one, dyn := false, frz := false, v := AV.ptr (Sh.agg [Sh.one, Sh.one]) 1 0 [] }, { sh := Sh.agg [Sh.one, Sh.one], dyn := false, frz := false, v := .dat (.agg [D.slc (s23) ds, D.fn (Fn.func 27) [] []]) }]))) (.leaf (.inl (IntKind.wrap IntKind.i64 (i + 1)))))))) (.leaf (.inr ((some 0), mkF 19 [], [{ sh := Sh.one, dyn := false, frz := false, v := AV.ptr (Sh.agg [Sh.one, Sh.one]) 1 0 [] }, { sh := Sh.agg [Sh.one, Sh.one], dyn := false, frz := false, v := .dat (.agg [D.slc (s23) ds, D.fn (Fn.func 27) [] []]) }])))
theorem ij_round (lp : Loops) (ls : List D) (n : Int) (ds : List D) (i : Int) (K : Kt) : oneRound (envOf tab ([(42, C_ifr)]) [] lp []) Tryd.f31 0 (2) (mkF 19 [(0, .dat (.slc s23 ls)), (1, (.fn (.func 42) [] [.ptr .one 0 0 []])), (7, .dat (.int .i64 n)), (8, .dat (.int .i64 i))]) (([⟨.one, false, false, .ptr (.agg [.one, .one]) 1 0 []⟩, ⟨.agg [.one, .one], false, false, .dat (.agg [.slc s23 ds, .fn (.func 27) [] []])⟩])) K =
  (bif decide (i < n) then
   (bif decide (0 ≤ i) then
    (bif decide (Int.toNat i < List.length ls) then
     (bif okE (k23) (nthD ls (Int.toNat i)) then
      (bif ifr_v0 (D.getB (nthD (D.getL (nthD ls (Int.toNat i))) 0)) then K (Exit.ret) (mkF 19 [(4, .dat (.int .i64 i))]) ([{ sh := Sh.one, dyn := false, frz := false, v := AV.ptr (Sh.agg [Sh.one, Sh.one]) 1 0 [] }, { sh := Sh.agg [Sh.one, Sh.one], dyn := false, frz := false, v := .dat (.agg [D.slc (s23) ds, D.fn (Fn.func 27) [] []]) }]) else K (Exit.normal) (mkF 19 [(0, .dat (.slc (s23) ls)), (1, AV.fn (Fn.func 42) [] [AV.ptr Sh.one 0 0 []]), (7, .dat (.int .i64 n)), (8, .dat (.int .i64 (IntKind.wrap IntKind.i64 (i + 1)))), (9, .dat (.bool (decide (i < n)))), (18, .dat (.int .i64 (IntKind.wrap IntKind.i64 (i + 1))))]) ([{ sh := Sh.one, dyn := false, frz := false, v := AV.ptr (Sh.agg [Sh.one, Sh.one]) 1 0 [] }, { sh := Sh.agg [Sh.one, Sh.one], dyn := false, frz := false, v := .dat (.agg [D.slc (s23) ds, D.fn (Fn.func 27) [] []]) }])) else none) else none) else none) else K (Exit.exit 0) (mkF 19 []) ([{ sh := Sh.one, dyn := false, frz := false, v := AV.ptr (Sh.agg [Sh.one, Sh.one]) 1 0 [] }, { sh := Sh.agg [Sh.one, Sh.one], dyn := false, frz := false, v := .dat (.agg [D.slc (s23) ds, D.fn (Fn.func 27) [] []]) }])) := by kernel_rfl
theorem ij_hr (lp : Loops) (ls : List D) (n : Int) (ds : List D) : ∀ (sA : Int) (K : Kt) (N : Int → Option Res), (∀ sB fr' σ', cleanF (liveAt Tryd.f31 0) 0 fr' = ij_fr ls n ds sB → trim (2) (ij_fr ls n ds sB) σ' = ij_st ls n ds sB → K .normal fr' σ' = N sB) →
    oneRound (envOf tab ([(42, C_ifr)]) [] lp []) Tryd.f31 0 (2) (ij_fr ls n ds sA) (ij_st ls n ds sA) K = (ij_step ls n ds sA).k (LK K N) := by
  intro i K N hN
  exact (ij_round lp ls n ds i K).trans (cong2 (cong2 (cong2 (cong2 (cong2 rfl (hN (IntKind.wrap IntKind.i64 (i + 1)) _ _ (by kernel_rfl) (by kernel_rfl))) rfl) rfl) rfl) rfl)
theorem ij_enter (ls : List D) (n : Int) (ds : List D) (i : Int) (fr : Frame') (hl : Nat.beq fr.length 19 = true) (g0 : fr.getD 0 .undef = .dat (.slc (s23) ls)) (g1 : fr.getD 1 .undef = AV.fn (Fn.func 42) [] [AV.ptr Sh.one 0 0 []]) (g7 : fr.getD 7 .undef = .dat (.int .i64 n)) (g8 : fr.getD 8 .undef = .dat (.int .i64 i)) : cleanF (liveAt Tryd.f31 0) 0 fr = ij_fr ls n ds i := by
  have e : liveAt Tryd.f31 0 = [7, 1, 0, 8] := by kernel_rfl
  rw [clean_mk (Nat.eq_of_beq_eq_true hl), e]
  show mkF 19 [(7, fr.getD 7 .undef), (1, fr.getD 1 .undef), (0, fr.getD 0 .undef), (8, fr.getD 8 .undef)] = _
  rw [g7, g1, g0, g8]
  kernel_rfl
def ij_idx (_ : List D) (ls : List D) : Int := bif ls.any ((fun d => !D.getB (nthD (D.getL d) 0))) then ((ls.findIdx ((fun d => !D.getB (nthD (D.getL d) 0))) : Nat) : Int) else -1
def ij_okL (_ : List D) (ls : List D) : Bool := ls.all ((okE (.agg [.bool, .int .i64, .int .i64, .int .i64, .str]))) && decide (ls.length ≤ 1099511627776)
theorem ij_closed (ls : List D) (n : Int) (ds : List D) (hc : (decide (n = (ls.length : Int)) && ij_okL ds ls) = true) :
    ∃ m, (iterT (ij_step ls n ds) m 0).run = T.run (.br (ls.any ((fun d => !D.getB (nthD (D.getL d) 0)))) (.leaf (none, mkF 19 [(4, .dat (.int .i64 (ls.findIdx ((fun d => !D.getB (nthD (D.getL d) 0))) : Nat)))], ([⟨.one, false, false, .ptr (.agg [.one, .one]) 1 0 []⟩, ⟨.agg [.one, .one], false, false, .dat (.agg [.slc (.agg [.one, .one, .one, .one, .one]) ds, .fn (.func 27) [] []])⟩]))) (.leaf (some 0, mkF 19 [], ([⟨.one, false, false, .ptr (.agg [.one, .one]) 1 0 []⟩, ⟨.agg [.one, .one], false, false, .dat (.agg [.slc (.agg [.one, .one, .one, .one, .one]) ds, .fn (.func 27) [] []])⟩])))) := by
  unfold ij_okL at hc
  simp only [Bool.and_eq_true, decide_eq_true_eq] at hc
  obtain ⟨rfl, h1, h2⟩ := hc
  obtain ⟨m, hm⟩ := iter_find (step := ij_step ls ls.length ds) (ls := ls) (p := (fun d => !D.getB (nthD (D.getL d) 0))) (o := fun k => (none, mkF 19 [(4, .dat (.int .i64 (k : Int)))], ([⟨.one, false, false, .ptr (.agg [.one, .one]) 1 0 []⟩, ⟨.agg [.one, .one], false, false, .dat (.agg [.slc (.agg [.one, .one, .one, .one, .one]) ds, .fn (.func 27) [] []])⟩]))) (o' := (some 0, mkF 19 [], ([⟨.one, false, false, .ptr (.agg [.one, .one]) 1 0 []⟩, ⟨.agg [.one, .one], false, false, .dat (.agg [.slc (.agg [.one, .one, .one, .one, .one]) ds, .fn (.func 27) [] []])⟩])))
    (fun k hk => by
      have hq := List.all_eq_true.1 h1 _ (nthD_mem hk)
      try simp only [Bool.and_eq_true] at hq
      unfold ij_step
      simp only [decide_eq_true (show (k : Int) < (ls.length : Int) by omega), decide_eq_true (show (0 : Int) ≤ (k : Int) by omega), Int.toNat_natCast, decide_eq_true hk, hq, wrap_succ (show k < 2 ^ 62 by omega), T.run_br, T.run_chk, T.run_leaf, cond_true]
      exact bif_some (((fun d => !D.getB (nthD (D.getL d) 0))) (nthD ls k)) _ _)
    (by
      unfold ij_step
      rw [decide_eq_false (show ¬ (ls.length : Int) < (ls.length : Int) by omega)]
      rfl)
  refine ⟨m, hm.trans ?_⟩
  cases ls.any ((fun d => !D.getB (nthD (D.getL d) 0))) <;> rfl
def L_ij : Frame' → Store → T (Exit × Frame' × Store) := fun fr σ => match fr.getD 0 .undef, fr.getD 1 .undef, fr.getD 7 .undef, fr.getD 8 .undef, σ with
  | AV.dat (D.slc (Sh.agg [Sh.one, Sh.one, Sh.one, Sh.one, Sh.one]) ls), AV.fn (Fn.func 42) [] [AV.ptr Sh.one 0 0 []], AV.dat (D.int IntKind.i64 n), AV.dat (D.int IntKind.i64 0), [{ sh := Sh.one, dyn := false, frz := false, v := AV.ptr (Sh.agg [Sh.one, Sh.one]) 1 0 [] }, { sh := Sh.agg [Sh.one, Sh.one], dyn := false, frz := false, v := AV.dat (D.agg [D.slc (Sh.agg [Sh.one, Sh.one, Sh.one, Sh.one, Sh.one]) ds, D.fn (Fn.func 27) [] []]) }] => .chk (Nat.beq fr.length 19 && (decide (n = (ls.length : Int)) && ij_okL ds ls)) (T.bind (.br (ls.any ((fun d => !D.getB (nthD (D.getL d) 0)))) (.leaf (none, mkF 19 [(4, .dat (.int .i64 (ls.findIdx ((fun d => !D.getB (nthD (D.getL d) 0))) : Nat)))], ([⟨.one, false, false, .ptr (.agg [.one, .one]) 1 0 []⟩, ⟨.agg [.one, .one], false, false, .dat (.agg [.slc s23 ds, .fn (.func 27) [] []])⟩]))) (.leaf (some 0, mkF 19 [], ([⟨.one, false, false, .ptr (.agg [.one, .one]) 1 0 []⟩, ⟨.agg [.one, .one], false, false, .dat (.agg [.slc s23 ds, .fn (.func 27) [] []])⟩])))) fun o => .leaf (outEx o.1, o.2.1, o.2.2))
  | _, _, _, _, _ => .fail
theorem ij_sem (lp : Loops) : ∀ fr σ p, (L_ij fr σ).run = some p → ∀ (K : Kt) r, K p.1 p.2.1 p.2.2 = some r → ∃ n, loopRun (envOf tab ([(42, C_ifr)]) [] lp []) Tryd.f31 0 σ.length n (cleanF (liveAt Tryd.f31 0) 0 fr) σ K = some r := by
  intro fr σ p h K r hK
  unfold L_ij at h
  split at h
  · rename_i ls n ds g0 g1 g7 g8
    obtain ⟨hc, h'⟩ := T.chk_some h
    rw [Bool.and_eq_true] at hc
    obtain ⟨hl, hc⟩ := hc
    obtain ⟨o, ho, h'⟩ := T.bind_some h'
    have hp := T.leaf_some h'
    subst hp
    obtain ⟨nF, hn⟩ : ∃ nF, (iterT (ij_step ls n ds) nF (0)).run = T.run (.br (ls.any ((fun d => !D.getB (nthD (D.getL d) 0)))) (.leaf (none, mkF 19 [(4, .dat (.int .i64 (ls.findIdx ((fun d => !D.getB (nthD (D.getL d) 0))) : Nat)))], ([⟨.one, false, false, .ptr (.agg [.one, .one]) 1 0 []⟩, ⟨.agg [.one, .one], false, false, .dat (.agg [.slc s23 ds, .fn (.func 27) [] []])⟩]))) (.leaf (some 0, mkF 19 [], ([⟨.one, false, false, .ptr (.agg [.one, .one]) 1 0 []⟩, ⟨.agg [.one, .one], false, false, .dat (.agg [.slc s23 ds, .fn (.func 27) [] []])⟩])))) := ij_closed ls n ds hc
    rw [ho] at hn
    refine ⟨nF, ?_⟩
    have he : cleanF (liveAt Tryd.f31 0) 0 fr = ij_fr ls n ds (0) := ij_enter ls n ds _ fr hl g0 g1 g7 g8
    refine (iter_ok (base := 2) (ij_hr lp ls n ds) K nF (0) _ _ (by rw [clean_clean]; exact he) (by kernel_rfl)).trans ?_
    rw [T.k_run hn]
    exact hK
  · simp [T.run_fail] at h
theorem ij_loopOk {k : Nat} (lp : Loops) (hk : Loops.get lp 2 = some L_ij) : LoopOkN Tryd.prog k (envOf tab ([(42, C_ifr)]) [] lp []) (loopAt Tryd.f31 0).1 (loopAt Tryd.f31 0).2 := loop_okN (L := L_ij) (by kernel_rfl) hk (ij_sem lp)
def S_ij : FunT := fun args σ => match args, σ with
  | [AV.dat (D.slc (Sh.agg [Sh.one, Sh.one, Sh.one, Sh.one, Sh.one]) ls), AV.fn (Fn.func 42) [] [AV.ptr Sh.one 0 0 []]], [{ sh := Sh.one, dyn := false, frz := false, v := AV.ptr (Sh.agg [Sh.one, Sh.one]) 1 0 [] }, { sh := Sh.agg [Sh.one, Sh.one], dyn := false, frz := false, v := AV.dat (D.agg [D.slc (Sh.agg [Sh.one, Sh.one, Sh.one, Sh.one, Sh.one]) ds, D.fn (Fn.func 27) [] []]) }] =>
    .chk (decide ((↑(List.length ls) : Int) = (↑(List.length ls) : Int)) && ij_okL ds ls) (.leaf ([.dat (.int .i64 (bif List.any ls fun d => !D.getB (nthD (D.getL d) 0) then (↑(List.findIdx (fun d => !D.getB (nthD (D.getL d) 0)) ls) : Int) else (-1 : Int)))], [{ sh := Sh.one, dyn := false, frz := false, v := AV.ptr (Sh.agg [Sh.one, Sh.one]) 1 0 [] }, { sh := Sh.agg [Sh.one, Sh.one], dyn := false, frz := false, v := .dat (.agg [D.slc (s23) ds, D.fn (Fn.func 27) [] []]) }]))
  | _, _ => .fail
theorem ij_raw0 (ls : List D) (ds : List D) : runF (envOf tab ([(42, C_ifr)]) [] [(2, L_ij)] []) true Tryd.f31 [.dat (.slc s23 ls), (.fn (.func 42) [] [.ptr .one 0 0 []])] ([⟨.one, false, false, .ptr (.agg [.one, .one]) 1 0 []⟩, ⟨.agg [.one, .one], false, false, .dat (.agg [.slc s23 ds, .fn (.func 27) [] []])⟩]) =
  (bif decide ((↑(List.length ls) : Int) = (↑(List.length ls) : Int)) && ij_okL ds ls then
   (bif List.any ls fun d => !D.getB (nthD (D.getL d) 0) then some ([.dat (.int .i64 (↑(List.findIdx (fun d => !D.getB (nthD (D.getL d) 0)) ls) : Int))], [{ sh := Sh.one, dyn := false, frz := false, v := AV.ptr (Sh.agg [Sh.one, Sh.one]) 1 0 [] }, { sh := Sh.agg [Sh.one, Sh.one], dyn := false, frz := false, v := .dat (.agg [D.slc (s23) ds, D.fn (Fn.func 27) [] []]) }]) else some ([.dat (.int .i64 (-1 : Int))], [{ sh := Sh.one, dyn := false, frz := false, v := AV.ptr (Sh.agg [Sh.one, Sh.one]) 1 0 [] }, { sh := Sh.agg [Sh.one, Sh.one], dyn := false, frz := false, v := .dat (.agg [D.slc (s23) ds, D.fn (Fn.func 27) [] []]) }])) else none) := by kernel_rfl
theorem ij_case0 (ls : List D) (ds : List D) : runF (envOf tab ([(42, C_ifr)]) [] [(2, L_ij)] []) true Tryd.f31 [.dat (.slc s23 ls), (.fn (.func 42) [] [.ptr .one 0 0 []])] ([⟨.one, false, false, .ptr (.agg [.one, .one]) 1 0 []⟩, ⟨.agg [.one, .one], false, false, .dat (.agg [.slc s23 ds, .fn (.func 27) [] []])⟩]) = FunT.run S_ij [.dat (.slc s23 ls), (.fn (.func 42) [] [.ptr .one 0 0 []])] ([⟨.one, false, false, .ptr (.agg [.one, .one]) 1 0 []⟩, ⟨.agg [.one, .one], false, false, .dat (.agg [.slc s23 ds, .fn (.func 27) [] []])⟩]) := (ij_raw0 ls ds).trans (cong2 (cond_cases (fun h0 => (by (try rw [h0]) <;> rfl)) (fun h0 => (by (try rw [h0]) <;> rfl))) rfl)
theorem ij_ok : FunOk Tryd.prog 31 (FunT.run S_ij) := by
  refine fun_ok (E := envOf tab ([(42, C_ifr)]) [] [(2, L_ij)] []) (fz := true) (fn := Tryd.f31) (envOf_ok progOk (.cons cifr_ok (.nil _))) (by kernel_rfl) (by kernel_rfl) (loops_one (by kernel_rfl) (ij_loopOk _ rfl)) ?_
  intro args σ r h
  unfold S_ij at h
  split at h
  · exact (ij_case0 _ _).trans h
  · simp [T.run_fail] at h
def C_ij : FunT := fun args σ => match args, σ with
  | [.dat (.slc (.agg [.one, .one, .one, .one, .one]) ls), (.fn (.func 42) [] [.ptr .one 0 0 []])], ([⟨.one, false, false, .ptr (.agg [.one, .one]) 1 0 []⟩, ⟨.agg [.one, .one], false, false, .dat (.agg [.slc (.agg [.one, .one, .one, .one, .one]) ds, .fn (.func 27) [] []])⟩]) => .chk (ij_okL ds ls) (.leaf ([.dat (.int .i64 (ij_idx ds ls))], ([⟨.one, false, false, .ptr (.agg [.one, .one]) 1 0 []⟩, ⟨.agg [.one, .one], false, false, .dat (.agg [.slc (.agg [.one, .one, .one, .one, .one]) ds, .fn (.func 27) [] []])⟩])))
  | _, _ => .fail
theorem cij_ok : FunOk Tryd.prog 31 (FunT.run C_ij) := ij_ok.of (by
  intro args σ r h
  unfold C_ij at h
  split at h
  · rename_i ls ds
    obtain ⟨hc, h'⟩ := T.chk_some h
    rw [← T.leaf_some h']
    unfold S_ij ij_idx
    simp only [hc, decide_true, Bool.and_true, T.run_chk, T.run_leaf, cond_true]
    all_goals (cases ls.any ((fun d => !D.getB (nthD (D.getL d) 0))) <;> rfl)
  · simp [T.run_fail] at h)
def ifs_v0 (ds : List D) : Int := bif decide (ij_idx ds ds < 0) then 0 else ij_idx ds ds
def ifs_v1 (ds : List D) : Int := bif decide (ij_idx ds ds < 0) then 8 else 0
def C_ifs : FunT := fun args σ => match args, σ with
  | [AV.ptr (Sh.agg [Sh.one, Sh.one]) 0 0 []], [{ sh := Sh.agg [Sh.one, Sh.one], dyn := false, frz := false, v := AV.dat (D.agg [D.slc (Sh.agg [Sh.one, Sh.one, Sh.one, Sh.one, Sh.one]) ds, D.fn (Fn.func 27) [] []]) }] => .chk (ij_okL ds ds) (.leaf ([AV.dat (D.int IntKind.i64 (ifs_v0 ds)), AV.dat (D.int IntKind.i64 (ifs_v1 ds))], [{ sh := Sh.agg [Sh.one, Sh.one], dyn := false, frz := false, v := AV.dat (D.agg [D.slc (s23) ds, D.fn (Fn.func 27) [] []]) }]))
  | _, _ => .fail
theorem ifs_raw0 (ds : List D) : runF (envOf tab [(29, C_imd), (31, C_ij)] [] [] []) true Tryd.f28 [.ptr (.agg [.one, .one]) 0 0 []] [irow ds] =
  (bif ij_okL ds ds then
   (bif decide (ij_idx ds ds < 0) then some ([.dat (.int .i64 0), .dat (.int .i64 8)], [{ sh := Sh.agg [Sh.one, Sh.one], dyn := false, frz := false, v := .dat (.agg [D.slc (s23) ds, D.fn (Fn.func 27) [] []]) }]) else some ([.dat (.int .i64 (ij_idx ds ds)), .dat (.int .i64 0)], [{ sh := Sh.agg [Sh.one, Sh.one], dyn := false, frz := false, v := .dat (.agg [D.slc (s23) ds, D.fn (Fn.func 27) [] []]) }])) else none) := by kernel_rfl
theorem ifs_case0 (ds : List D) : runF (envOf tab [(29, C_imd), (31, C_ij)] [] [] []) true Tryd.f28 [.ptr (.agg [.one, .one]) 0 0 []] [irow ds] = FunT.run C_ifs [.ptr (.agg [.one, .one]) 0 0 []] [irow ds] := (ifs_raw0 ds).trans (by
  show _ = (cond (ij_okL ds ds) (some (([.dat (.int .i64 (bif decide (ij_idx ds ds < 0) then 0 else ij_idx ds ds)), .dat (.int .i64 (bif decide (ij_idx ds ds < 0) then 8 else 0))], [{ sh := Sh.agg [Sh.one, Sh.one], dyn := false, frz := false, v := .dat (.agg [D.slc (s23) ds, D.fn (Fn.func 27) [] []]) }]) : Res)) none)
  generalize (decide (ij_idx ds ds < 0)) = z0
  generalize (ij_okL ds ds) = z1
  cases z1 with
  | true =>
   cases z0 with
   | true =>
    rfl
   | false =>
    rfl
  | false =>
   rfl
  )
theorem cifs_ok : FunOk Tryd.prog 28 (FunT.run C_ifs) := by
  refine fun_ok (E := envOf tab [(29, C_imd), (31, C_ij)] [] [] []) (fz := true) (fn := Tryd.f28) (envOf_ok progOk (.cons cimd_ok (.cons cij_ok (.nil _)))) (by kernel_rfl) (by kernel_rfl) (loops_none (by kernel_rfl)) ?_
  intro args σ r h
  unfold C_ifs at h
  split at h
  · exact (ifs_case0 _).trans h
  · simp [T.run_fail] at h
def ipt_v0 (ds : List D) (i : Int) (u : Bool) (la : Int) (fm : Int) (to : Int) (s : ByteArray) : List D := bif decide (i < 0) then [] else bif decide ((↑(List.length ds) : Int) ≤ i) then [] else seg (List.set ds (0 + Int.toNat i) (D.agg [D.bool u, D.int .i64 la, D.int .i64 fm, D.int .i64 to, D.str s])) 0 (List.length ds)
def ipt_v1 (ds : List D) (i : Int) : Int := bif decide (i < 0) then 1 else bif decide ((↑(List.length ds) : Int) ≤ i) then 1 else 0
def ipt_pre (ds : List D) (i : Int) (u : Bool) (la : Int) (fm : Int) (to : Int) (s : ByteArray) : Bool := decide (i < 0) || (decide ((↑(List.length ds) : Int) ≤ i) || !List.isEmpty ds && fits (s23) ds && decide (List.length ds * 48 ≤ 35184372088832) && (decide (0 ≤ i) && (decide (i < (↑(List.length ds) : Int)) && (Nat.beq (List.length ds) (List.length ds) && (decide (0 + Int.toNat i < List.length ds) && (AX.okS (s23) (nthD ds (0 + Int.toNat i)) && (Sh.eqb (Sh.agg [D.shape (nthD (D.getL (nthD ds (0 + Int.toNat i))) 0), D.shape (nthD (D.getL (nthD ds (0 + Int.toNat i))) 1), D.shape (nthD (D.getL (nthD ds (0 + Int.toNat i))) 2), D.shape (nthD (D.getL (nthD ds (0 + Int.toNat i))) 3), D.shape (nthD (D.getL (nthD ds (0 + Int.toNat i))) 4)]) (s23) && Nat.beq (List.length (List.set ds (0 + Int.toNat i) (D.agg [D.bool u, D.int .i64 la, D.int .i64 fm, D.int .i64 to, D.str s]))) (List.length ds))))))))
def C_ipt : FunT := fun args σ => match args, σ with
  | [AV.ptr (Sh.agg [Sh.one, Sh.one]) 0 0 [], AV.dat (D.int IntKind.i64 i), AV.dat (D.agg [D.bool u, D.int IntKind.i64 la, D.int IntKind.i64 fm, D.int IntKind.i64 to, D.str s])], [{ sh := Sh.agg [Sh.one, Sh.one], dyn := false, frz := false, v := AV.dat (D.agg [D.slc (Sh.agg [Sh.one, Sh.one, Sh.one, Sh.one, Sh.one]) ds, D.fn (Fn.func 27) [] []]) }] => .chk ((ipt_pre ds i u la fm to s)) (.leaf ([AV.dat (D.slc (s23) (ipt_v0 ds i u la fm to s)), AV.dat (D.int IntKind.i64 (ipt_v1 ds i))], [{ sh := Sh.agg [Sh.one, Sh.one], dyn := false, frz := false, v := AV.dat (D.agg [D.slc (s23) ds, D.fn (Fn.func 27) [] []]) }]))
  | _, _ => .fail
theorem ipt_raw0 (ds : List D) (i : Int) (u : Bool) (la fm to : Int) (s : ByteArray) : runF (envOf tab [(29, C_imd), (30, S_icO)] [] [] []) true Tryd.f15 [.ptr (.agg [.one, .one]) 0 0 [], .dat (.int .i64 i), .dat (.agg [.bool u, .int .i64 la, .int .i64 fm, .int .i64 to, .str s])] [irow ds] =
  (bif decide (i < 0) then some ([.dat (.slc (s23) []), .dat (.int .i64 1)], [{ sh := Sh.agg [Sh.one, Sh.one], dyn := false, frz := false, v := .dat (.agg [D.slc (s23) ds, D.fn (Fn.func 27) [] []]) }]) else
   (bif decide (i ≥ (↑(List.length ds) : Int)) then some ([.dat (.slc (s23) []), .dat (.int .i64 1)], [{ sh := Sh.agg [Sh.one, Sh.one], dyn := false, frz := false, v := .dat (.agg [D.slc (s23) ds, D.fn (Fn.func 27) [] []]) }]) else
    (bif !List.isEmpty ds && fits (s23) ds && decide (List.length ds * 48 ≤ 35184372088832) then
     (bif decide (0 ≤ i) then
      (bif decide (i < (↑(List.length ds) : Int)) then
       (bif Nat.beq (List.length ds) (List.length ds) && true && true && true then
        (bif decide (0 + Int.toNat i < List.length ds) then
         (bif AX.okS (s23) (nthD ds (0 + Int.toNat i)) then
          (bif Sh.eqb (Sh.agg [D.shape (nthD (D.getL (nthD ds (0 + Int.toNat i))) 0), D.shape (nthD (D.getL (nthD ds (0 + Int.toNat i))) 1), D.shape (nthD (D.getL (nthD ds (0 + Int.toNat i))) 2), D.shape (nthD (D.getL (nthD ds (0 + Int.toNat i))) 3), D.shape (nthD (D.getL (nthD ds (0 + Int.toNat i))) 4)]) (s23) then
           (bif Nat.beq (List.length (List.set ds (0 + Int.toNat i) (D.agg [D.bool u, D.int .i64 la, D.int .i64 fm, D.int .i64 to, D.str s]))) (List.length ds) then some ([.dat (.slc (s23) (seg (List.set ds (0 + Int.toNat i) (D.agg [D.bool u, D.int .i64 la, D.int .i64 fm, D.int .i64 to, D.str s])) 0 (List.length ds))), .dat (.int .i64 0)], [{ sh := Sh.agg [Sh.one, Sh.one], dyn := false, frz := false, v := .dat (.agg [D.slc (s23) ds, D.fn (Fn.func 27) [] []]) }]) else none) else none) else none) else none) else none) else none) else none) else none))) := by kernel_rfl
theorem ipt_case0 (ds : List D) (i : Int) (u : Bool) (la fm to : Int) (s : ByteArray) : runF (envOf tab [(29, C_imd), (30, S_icO)] [] [] []) true Tryd.f15 [.ptr (.agg [.one, .one]) 0 0 [], .dat (.int .i64 i), .dat (.agg [.bool u, .int .i64 la, .int .i64 fm, .int .i64 to, .str s])] [irow ds] = FunT.run C_ipt [.ptr (.agg [.one, .one]) 0 0 [], .dat (.int .i64 i), .dat (.agg [.bool u, .int .i64 la, .int .i64 fm, .int .i64 to, .str s])] [irow ds] := (ipt_raw0 ds i u la fm to s).trans (by
  show _ = (cond (decide (i < 0) || (decide ((↑(List.length ds) : Int) ≤ i) || !List.isEmpty ds && fits (s23) ds && decide (List.length ds * 48 ≤ 35184372088832) && (decide (0 ≤ i) && (decide (i < (↑(List.length ds) : Int)) && (Nat.beq (List.length ds) (List.length ds) && (decide (0 + Int.toNat i < List.length ds) && (AX.okS (s23) (nthD ds (0 + Int.toNat i)) && (Sh.eqb (Sh.agg [D.shape (nthD (D.getL (nthD ds (0 + Int.toNat i))) 0), D.shape (nthD (D.getL (nthD ds (0 + Int.toNat i))) 1), D.shape (nthD (D.getL (nthD ds (0 + Int.toNat i))) 2), D.shape (nthD (D.getL (nthD ds (0 + Int.toNat i))) 3), D.shape (nthD (D.getL (nthD ds (0 + Int.toNat i))) 4)]) (s23) && Nat.beq (List.length (List.set ds (0 + Int.toNat i) (D.agg [D.bool u, D.int .i64 la, D.int .i64 fm, D.int .i64 to, D.str s]))) (List.length ds))))))))) (some (([.dat (.slc (s23) (bif decide (i < 0) then [] else bif decide ((↑(List.length ds) : Int) ≤ i) then [] else seg (List.set ds (0 + Int.toNat i) (D.agg [D.bool u, D.int .i64 la, D.int .i64 fm, D.int .i64 to, D.str s])) 0 (List.length ds))), .dat (.int .i64 (bif decide (i < 0) then 1 else bif decide ((↑(List.length ds) : Int) ≤ i) then 1 else 0))], [{ sh := Sh.agg [Sh.one, Sh.one], dyn := false, frz := false, v := .dat (.agg [D.slc (s23) ds, D.fn (Fn.func 27) [] []]) }]) : Res)) none)
  generalize (Sh.eqb (Sh.agg [D.shape (nthD (D.getL (nthD ds (0 + Int.toNat i))) 0), D.shape (nthD (D.getL (nthD ds (0 + Int.toNat i))) 1), D.shape (nthD (D.getL (nthD ds (0 + Int.toNat i))) 2), D.shape (nthD (D.getL (nthD ds (0 + Int.toNat i))) 3), D.shape (nthD (D.getL (nthD ds (0 + Int.toNat i))) 4)]) (s23)) = z0
  generalize (!List.isEmpty ds && fits (s23) ds && decide (List.length ds * 48 ≤ 35184372088832)) = z1
  generalize (Nat.beq (List.length (List.set ds (0 + Int.toNat i) (D.agg [D.bool u, D.int .i64 la, D.int .i64 fm, D.int .i64 to, D.str s]))) (List.length ds)) = z2
  generalize (decide (0 + Int.toNat i < List.length ds)) = z3
  generalize (AX.okS (s23) (nthD ds (0 + Int.toNat i))) = z4
  generalize (decide (i < (↑(List.length ds) : Int))) = z5
  generalize (decide ((↑(List.length ds) : Int) ≤ i)) = z6
  generalize (decide (0 ≤ i)) = z7
  generalize (decide (i < 0)) = z8
  generalize (Nat.beq (List.length ds) (List.length ds)) = z9
  cases z8 with
  | true =>
   rfl
  | false =>
   cases z6 with
   | true =>
    rfl
   | false =>
    cases z1 with
    | true =>
     cases z7 with
     | true =>
      cases z5 with
      | true =>
       cases z9 with
       | true =>
        cases z3 with
        | true =>
         cases z4 with
         | true =>
          cases z0 with
          | true =>
           cases z2 with
           | true =>
            rfl
           | false =>
            rfl
          | false =>
           rfl
         | false =>
          rfl
        | false =>
         rfl
       | false =>
        rfl
      | false =>
       rfl
     | false =>
      rfl
    | false =>
     rfl
  )
theorem cipt_ok : FunOk Tryd.prog 15 (FunT.run C_ipt) := by
  refine fun_ok (E := envOf tab [(29, C_imd), (30, S_icO)] [] [] []) (fz := true) (fn := Tryd.f15) (envOf_ok progOk (.cons cimd_ok (.cons icO_ok (.nil _)))) (by kernel_rfl) (by kernel_rfl) (loops_none (by kernel_rfl)) ?_
  intro args σ r h
  unfold C_ipt at h
  split at h
  · exact (ipt_case0 _ _ _ _ _ _ _).trans h
  · simp [T.run_fail] at h
def iad_v0 (ds : List D) (u : Bool) (la : Int) (fm : Int) (to : Int) (s : ByteArray) : List D := bif ifs_v1 ds != 0 then [] else ipt_v0 ds (ifs_v0 ds) u la fm to s
def iad_v1 (ds : List D) : Int := bif ifs_v1 ds != 0 then 0 else ifs_v0 ds
def iad_v2 (ds : List D) : Int := bif ifs_v1 ds != 0 then ifs_v1 ds else ipt_v1 ds (ifs_v0 ds)
def iad_pre (ds : List D) (u : Bool) (la : Int) (fm : Int) (to : Int) (s : ByteArray) : Bool := ij_okL ds ds && (ifs_v1 ds != 0 || ipt_pre ds (ifs_v0 ds) u la fm to s)
def C_iad : FunT := fun args σ => match args, σ with
  | [AV.ptr (Sh.agg [Sh.one, Sh.one]) 0 0 [], AV.dat (D.agg [D.bool u, D.int IntKind.i64 la, D.int IntKind.i64 fm, D.int IntKind.i64 to, D.str s])], [{ sh := Sh.agg [Sh.one, Sh.one], dyn := false, frz := false, v := AV.dat (D.agg [D.slc (Sh.agg [Sh.one, Sh.one, Sh.one, Sh.one, Sh.one]) ds, D.fn (Fn.func 27) [] []]) }] => .chk ((iad_pre ds u la fm to s)) (.leaf ([AV.dat (D.slc (s23) (iad_v0 ds u la fm to s)), AV.dat (D.int IntKind.i64 (iad_v1 ds)), AV.dat (D.int IntKind.i64 (iad_v2 ds))], [{ sh := Sh.agg [Sh.one, Sh.one], dyn := false, frz := false, v := AV.dat (D.agg [D.slc (s23) ds, D.fn (Fn.func 27) [] []]) }]))
  | _, _ => .fail
theorem iad_raw0 (ds : List D) (u : Bool) (la fm to : Int) (s : ByteArray) : runF (envOf tab [(28, C_ifs), (15, C_ipt)] [] [] []) true Tryd.f14 [.ptr (.agg [.one, .one]) 0 0 [], .dat (.agg [.bool u, .int .i64 la, .int .i64 fm, .int .i64 to, .str s])] [irow ds] =
  (bif ij_okL ds ds then
   (bif ifs_v1 ds != 0 then some ([.dat (.slc (s23) []), .dat (.int .i64 0), .dat (.int .i64 (ifs_v1 ds))], [{ sh := Sh.agg [Sh.one, Sh.one], dyn := false, frz := false, v := .dat (.agg [D.slc (s23) ds, D.fn (Fn.func 27) [] []]) }]) else
    (bif ipt_pre ds (ifs_v0 ds) u la fm to s then some ([.dat (.slc (s23) (ipt_v0 ds (ifs_v0 ds) u la fm to s)), .dat (.int .i64 (ifs_v0 ds)), .dat (.int .i64 (ipt_v1 ds (ifs_v0 ds)))], [{ sh := Sh.agg [Sh.one, Sh.one], dyn := false, frz := false, v := .dat (.agg [D.slc (s23) ds, D.fn (Fn.func 27) [] []]) }]) else none)) else none) := by kernel_rfl
theorem iad_case0 (ds : List D) (u : Bool) (la fm to : Int) (s : ByteArray) : runF (envOf tab [(28, C_ifs), (15, C_ipt)] [] [] []) true Tryd.f14 [.ptr (.agg [.one, .one]) 0 0 [], .dat (.agg [.bool u, .int .i64 la, .int .i64 fm, .int .i64 to, .str s])] [irow ds] = FunT.run C_iad [.ptr (.agg [.one, .one]) 0 0 [], .dat (.agg [.bool u, .int .i64 la, .int .i64 fm, .int .i64 to, .str s])] [irow ds] := (iad_raw0 ds u la fm to s).trans (by
  show _ = (cond (ij_okL ds ds && (ifs_v1 ds != 0 || ipt_pre ds (ifs_v0 ds) u la fm to s)) (some (([.dat (.slc (s23) (bif ifs_v1 ds != 0 then [] else ipt_v0 ds (ifs_v0 ds) u la fm to s)), .dat (.int .i64 (bif ifs_v1 ds != 0 then 0 else ifs_v0 ds)), .dat (.int .i64 (bif ifs_v1 ds != 0 then ifs_v1 ds else ipt_v1 ds (ifs_v0 ds)))], [{ sh := Sh.agg [Sh.one, Sh.one], dyn := false, frz := false, v := .dat (.agg [D.slc (s23) ds, D.fn (Fn.func 27) [] []]) }]) : Res)) none)
  generalize (ifs_v1 ds != 0) = z0
  generalize (ipt_pre ds (ifs_v0 ds) u la fm to s) = z1
  generalize (ij_okL ds ds) = z2
  cases z2 with
  | true =>
   cases z0 with
   | true =>
    rfl
   | false =>
    cases z1 with
    | true =>
     rfl
    | false =>
     rfl
  | false =>
   rfl
  )
theorem ciad_ok : FunOk Tryd.prog 14 (FunT.run C_iad) := by
  refine fun_ok (E := envOf tab [(28, C_ifs), (15, C_ipt)] [] [] []) (fz := true) (fn := Tryd.f14) (envOf_ok progOk (.cons cifs_ok (.cons cipt_ok (.nil _)))) (by kernel_rfl) (by kernel_rfl) (loops_none (by kernel_rfl)) ?_
  intro args σ r h
  unfold C_iad at h
  split at h
  · exact (iad_case0 _ _ _ _ _ _).trans h
  · simp [T.run_fail] at h
def ihas_v0 (ds : List D) (i : Int) : Bool := decide (0 ≤ i) && (decide (i < (↑(List.length ds) : Int)) && D.getB (nthD (D.getL (nthD ds (Int.toNat i))) 0))
def ihas_pre (ds : List D) (i : Int) : Bool := !decide (0 ≤ i) || (!decide (i < (↑(List.length ds) : Int)) || decide (Int.toNat i < List.length ds) && okE (k23) (nthD ds (Int.toNat i)))
def C_ihas : FunT := fun args σ => match args, σ with
  | [AV.ptr (Sh.agg [Sh.one, Sh.one]) 0 0 [], AV.dat (D.int IntKind.i64 i)], [{ sh := Sh.agg [Sh.one, Sh.one], dyn := false, frz := false, v := AV.dat (D.agg [D.slc (Sh.agg [Sh.one, Sh.one, Sh.one, Sh.one, Sh.one]) ds, D.fn (Fn.func 27) [] []]) }] => .chk ((ihas_pre ds i)) (.leaf ([AV.dat (D.bool (ihas_v0 ds i))], [{ sh := Sh.agg [Sh.one, Sh.one], dyn := false, frz := false, v := AV.dat (D.agg [D.slc (s23) ds, D.fn (Fn.func 27) [] []]) }]))
  | _, _ => .fail
theorem ihas_raw0 (ds : List D) (i : Int) : runF (envOf tab [(29, C_imd), (27, C_itk)] [] [] []) true Tryd.f18 [.ptr (.agg [.one, .one]) 0 0 [], .dat (.int .i64 i)] [irow ds] =
  (bif decide (i ≥ 0) then
   (bif decide (i < (↑(List.length ds) : Int)) then
    (bif decide (0 ≤ i) then
     (bif decide (Int.toNat i < List.length ds) then
      (bif okE (k23) (nthD ds (Int.toNat i)) then some ([.dat (.bool (D.getB (nthD (D.getL (nthD ds (Int.toNat i))) 0)))], [{ sh := Sh.agg [Sh.one, Sh.one], dyn := false, frz := false, v := .dat (.agg [D.slc (s23) ds, D.fn (Fn.func 27) [] []]) }]) else none) else none) else none) else some ([.dat (.bool false)], [{ sh := Sh.agg [Sh.one, Sh.one], dyn := false, frz := false, v := .dat (.agg [D.slc (s23) ds, D.fn (Fn.func 27) [] []]) }])) else some ([.dat (.bool false)], [{ sh := Sh.agg [Sh.one, Sh.one], dyn := false, frz := false, v := .dat (.agg [D.slc (s23) ds, D.fn (Fn.func 27) [] []]) }])) := by kernel_rfl
theorem ihas_case0 (ds : List D) (i : Int) : runF (envOf tab [(29, C_imd), (27, C_itk)] [] [] []) true Tryd.f18 [.ptr (.agg [.one, .one]) 0 0 [], .dat (.int .i64 i)] [irow ds] = FunT.run C_ihas [.ptr (.agg [.one, .one]) 0 0 [], .dat (.int .i64 i)] [irow ds] := (ihas_raw0 ds i).trans (by
  show _ = (cond (!decide (0 ≤ i) || (!decide (i < (↑(List.length ds) : Int)) || decide (Int.toNat i < List.length ds) && okE (k23) (nthD ds (Int.toNat i)))) (some (([.dat (.bool (decide (0 ≤ i) && (decide (i < (↑(List.length ds) : Int)) && D.getB (nthD (D.getL (nthD ds (Int.toNat i))) 0))))], [{ sh := Sh.agg [Sh.one, Sh.one], dyn := false, frz := false, v := .dat (.agg [D.slc (s23) ds, D.fn (Fn.func 27) [] []]) }]) : Res)) none)
  generalize (okE (k23) (nthD ds (Int.toNat i))) = z0
  generalize (decide (i < (↑(List.length ds) : Int))) = z1
  generalize (decide (0 ≤ i)) = z2
  generalize (decide (Int.toNat i < List.length ds)) = z3
  cases z2 with
  | true =>
   cases z1 with
   | true =>
    cases z3 with
    | true =>
     cases z0 with
     | true =>
      rfl
     | false =>
      rfl
    | false =>
     rfl
   | false =>
    rfl
  | false =>
   rfl
  )
theorem cihas_ok : FunOk Tryd.prog 18 (FunT.run C_ihas) := by
  refine fun_ok (E := envOf tab [(29, C_imd), (27, C_itk)] [] [] []) (fz := true) (fn := Tryd.f18) (envOf_ok progOk (.cons cimd_ok (.cons citk_ok (.nil _)))) (by kernel_rfl) (by kernel_rfl) (loops_none (by kernel_rfl)) ?_
  intro args σ r h
  unfold C_ihas at h
  split at h
  · exact (ihas_case0 _ _).trans h
  · simp [T.run_fail] at h
end Go.Proofs.YtggellmbhgkckaaDoor
