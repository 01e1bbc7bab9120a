/- Seat 03: NameLists' run. -/
import Derived.Test.YtniombjfbdojjaaDoorH
namespace Go.Proofs.YtniombjfbdojjaaDoor
open Go.AX
set_option maxRecDepth 100000
abbrev twP (ls : List D) (i : Nat) : Bool := rindex_v0 ls (D.getS (nthD ls i)) != (i : Int)
theorem ra_closed (ls : List D) (hc : okSt ls = true) :
    ∃ z, (iterT (ra_step ls) z 0).run = T.run (.br ((List.range ls.length).any (twP ls)) (.leaf (none, mkF 18 [(2, .dat (.bool false))], [])) (.leaf (some 0, mkF 18 [], []))) := by
  have h := hc
  simp only [Bool.and_eq_true, decide_eq_true_eq] at h
  obtain ⟨h1, h2⟩ := h
  obtain ⟨z, hz⟩ := iter_any (step := ra_step ls) (n := ls.length) (p := twP ls) (o := (none, mkF 18 [(2, .dat (.bool false))], [])) (o' := (some 0, mkF 18 [], [])) (fun i hi => by
    unfold ra_step
    simp only [decide_eq_true (show (i : Int) < (ls.length : Int) by omega), decide_eq_true (show (0 : Int) ≤ (i : Int) by omega), Int.toNat_natCast, decide_eq_true hi, allE_nth h1 hi, hc, wrap_succ (show i < 2 ^ 62 by omega), Bool.not_true, Bool.false_or, Bool.true_and, T.run_br, T.run_chk, T.run_leaf, cond_true, cond_false]
    exact bif_some _ _ _) (by
    unfold ra_step
    simp only [decide_eq_false (show ¬ (ls.length : Int) < (ls.length : Int) by omega)]
    rfl)
  refine ⟨z, hz.trans ?_⟩
  cases (List.range ls.length).any (twP ls) <;> rfl
def L_ra : Frame' → Store → T (Exit × Frame' × Store) := fun fr σ => match fr.getD 0 .undef, fr.getD 3 .undef, σ with
  | AV.dat (D.slc Sh.one ls), AV.dat (D.int IntKind.i64 0), [] => .chk (Nat.beq fr.length 18 && (okSt ls)) (T.bind (.br ((List.range ls.length).any (twP ls)) (.leaf (none, mkF 18 [(2, .dat (.bool false))], [])) (.leaf (some 0, mkF 18 [], []))) fun o => .leaf (outEx o.1, o.2.1, o.2.2))
  | _, _, _ => .fail
theorem ra_sem (lp : Loops) : ∀ fr σ p, (L_ra fr σ).run = some p → ∀ (K : Kt) r, K p.1 p.2.1 p.2.2 = some r → ∃ n, loopRun (envOf tab [(14, C_rindex)] [] lp []) Tryd.f16 0 σ.length n (cleanF (liveAt Tryd.f16 0) 0 fr) σ K = some r := by
  intro fr σ p h K r hK
  unfold L_ra at h
  split at h
  · rename_i ls g0 g3
    obtain ⟨hc, h'⟩ := T.chk_some h
    rw [Bool.and_eq_true] at hc
    obtain ⟨hl, hc⟩ := hc
    obtain ⟨o, ho, h'⟩ := T.bind_some h'
    have hp := T.leaf_some h'
    subst hp
    obtain ⟨nF, hn⟩ : ∃ nF, (iterT (ra_step ls) nF (0)).run = T.run (.br ((List.range ls.length).any (twP ls)) (.leaf (none, mkF 18 [(2, .dat (.bool false))], [])) (.leaf (some 0, mkF 18 [], []))) := ra_closed ls hc
    rw [ho] at hn
    refine ⟨nF, ?_⟩
    have he : cleanF (liveAt Tryd.f16 0) 0 fr = ra_fr ls (0) := ra_enter ls _ fr hl g0 g3
    refine (iter_ok (base := 0) (ra_hr lp ls) K nF (0) _ _ (by rw [clean_clean]; exact he) (by kernel_rfl)).trans ?_
    rw [T.k_run hn]
    exact hK
  · simp [T.run_fail] at h
theorem ra_loopOk {k : Nat} (lp : Loops) (hk : Loops.get lp 2 = some L_ra) : LoopOkN Tryd.prog k (envOf tab [(14, C_rindex)] [] lp []) (loopAt Tryd.f16 0).1 (loopAt Tryd.f16 0).2 := loop_okN (L := L_ra) (by kernel_rfl) hk (ra_sem lp)
def rapart_v0 (ls : List D) : Bool := !List.any (List.range (List.length ls)) (twP ls)
def C_rapart : FunT := fun args σ => match args, σ with
  | [AV.dat (D.slc Sh.one ls)], [] => .chk (okSt ls) (.leaf ([AV.dat (D.bool (rapart_v0 ls))], []))
  | _, _ => .fail
theorem rapart_raw0 (ls : List D) : runF (envOf tab [(14, C_rindex)] [] [(2, L_ra)] []) true Tryd.f16 [.dat (.slc .one ls)] [] =
  (bif okSt ls then
   (bif List.any (List.range (List.length ls)) (twP ls) then some ([.dat (.bool false)], []) else some ([.dat (.bool true)], [])) else none) := by kernel_rfl
theorem rapart_case0 (ls : List D) : runF (envOf tab [(14, C_rindex)] [] [(2, L_ra)] []) true Tryd.f16 [.dat (.slc .one ls)] [] = FunT.run C_rapart [.dat (.slc .one ls)] [] := (rapart_raw0 ls).trans (by
  show _ = (cond (okSt ls) (some (([.dat (.bool !List.any (List.range (List.length ls)) (twP ls))], []) : Res)) none)
  generalize (List.any (List.range (List.length ls)) (twP ls)) = z0
  generalize (okSt ls) = z1
  cases z1 with
  | true =>
   cases z0 with
   | true =>
    rfl
   | false =>
    rfl
  | false =>
   rfl
  )
theorem crapart_ok : FunOk Tryd.prog 16 (FunT.run C_rapart) := by
  refine fun_ok (E := envOf tab [(14, C_rindex)] [] [(2, L_ra)] []) (fz := true) (fn := Tryd.f16) (envOf_ok progOk (.cons crindex_ok (.nil _))) (by kernel_rfl) (by kernel_rfl) (loops_one (by kernel_rfl) (ra_loopOk _ rfl)) ?_
  intro args σ r h
  unfold C_rapart at h
  split at h
  · exact (rapart_case0 _).trans h
  · simp [T.run_fail] at h
abbrev SpI : Specs := [(6, C_alive), (13, C_nindex), (14, C_rindex), (15, C_apart), (16, C_rapart)]
theorem SpI_ok : SpecsOk Tryd.prog SpI := .cons calive_ok (.cons cnindex_ok (.cons crindex_ok (.cons capart_ok (.cons crapart_ok (.nil _)))))
abbrev HI : Hints := [(999999, 8, [.is 8 (aBool true)]), (999999, 9, [.is 9 (aBool true)]), (999999, 17, [.is 17 (aBool true)]), (999999, 24, [.is 24 (aBool true)])]
abbrev nl_E : Env := envOf tab SpI [] [] HI
def nl_F0 (ls : List D) (v : ByteArray) : Frame' := mkF 26 [(0, .dat (.slc Sh.one ls)), (1, .dat (.str v))]
def nl_T0 (_ls : List D) (_v : ByteArray) : Store := []
theorem nl_start (ls : List D) (v : ByteArray) : runF (envOf tab SpI [] [] HI) true Tryd.f4 [.dat (.slc .one ls), .dat (.str v)] [] = ex (Env.rebase (nl_E) 0) [4] (sqR 0 (bodyOf Tryd.f4)) [] [4] (nl_F0 ls v) (nl_T0 ls v) (finK (nl_E) true Tryd.f4 (callFin [] [])) := run_start (ρ := []) (args' := [.dat (.slc Sh.one ls), .dat (.str v)]) (by kernel_rfl) (by kernel_rfl) (by kernel_rfl) (by kernel_rfl) (by kernel_rfl) (by kernel_rfl) (by kernel_rfl) (by kernel_rfl) (by kernel_rfl)
theorem nl_q0 (ls : List D) (v : ByteArray) (K : Kt) : ex (Env.rebase (nl_E) 0) [4] (sqA (sqR 0 (bodyOf Tryd.f4))) [] [1, 0] (nl_F0 ls v) (nl_T0 ls v) K = K .normal (mkF 26 [(0, .dat (.slc Sh.one ls)), (1, .dat (.str v)), (4, .dat (.bool false))]) ([]) := by kernel_rfl
def nl_F1 (ls : List D) (v : ByteArray) : Frame' := mkF 26 [(0, .dat (.slc Sh.one ls)), (1, .dat (.str v)), (4, .dat (.bool false))]
def nl_T1 (_ls : List D) (_v : ByteArray) : Store := []
theorem nl_s0 (ls : List D) (v : ByteArray) (K : Kt) : ex (Env.rebase (nl_E) 0) [4] (sqR 0 (bodyOf Tryd.f4)) [] [4] (nl_F0 ls v) (nl_T0 ls v) K = ex (Env.rebase (nl_E) 0) [4] (sqR 1 (bodyOf Tryd.f4)) [] [4] (nl_F1 ls v) (nl_T1 ls v) K := (seg_str (c := (sqR 0 (bodyOf Tryd.f4))) (a := sqA (sqR 0 (bodyOf Tryd.f4))) (b := (sqR 1 (bodyOf Tryd.f4))) (by kernel_rfl) (by kernel_rfl) (by kernel_rfl) (nl_q0 ls v) K).trans (seqK_normal (by kernel_rfl) (by kernel_rfl))
theorem nl_r1 (ls : List D) (v : ByteArray) (J : List AV → Store → Option Res) (K : Kt) : ex (Env.rebase (nl_E) 0) [4] (sqA (sqR 1 (bodyOf Tryd.f4))) [] [1, 0] (nl_F1 ls v) (nl_T1 ls v) (jK [] J K) = (cond (decide ((↑(List.length ls) : Int) > 100)) (K (Exit.ret) (mkF 26 [(4, .dat (.bool true))]) ([])) (J ([]) ([]))) := by kernel_rfl
theorem nl_q1 (ls : List D) (v : ByteArray) (J : List AV → Store → Option Res) (K : Kt) : ex (Env.rebase (nl_E) 0) [4] (sqA (sqR 1 (bodyOf Tryd.f4))) [] [1, 0] (nl_F1 ls v) (nl_T1 ls v) (jK [] J K) = (cond (decide (100 < (↑(List.length ls) : Int))) (K (Exit.ret) (mkF 26 [(4, .dat (.bool true))]) ([])) (J ([]) ([]))) := (nl_r1 ls v J K).trans (by
  generalize (decide (100 < (↑(List.length ls) : Int))) = z0
  cases z0 with
  | true =>
   rfl
  | false =>
   rfl
  )
def nl_F2 (ls : List D) (v : ByteArray) : Frame' := mkF 26 [(0, .dat (.slc Sh.one ls)), (1, .dat (.str v))]
def nl_T2 (_ls : List D) (_v : ByteArray) : Store := []
def nl_c1_0 (ls : List D) : Bool := decide (100 < (↑(List.length ls) : Int))
theorem nl_s1 (ls : List D) (v : ByteArray) (K : Kt) : ex (Env.rebase (nl_E) 0) [4] (sqR 1 (bodyOf Tryd.f4)) [] [4] (nl_F1 ls v) (nl_T1 ls v) K = (cond (nl_c1_0 ls) (K (Exit.ret) (mkF 26 [(4, .dat (.bool true))]) ([])) (ex (Env.rebase (nl_E) 0) [4] (sqR 2 (bodyOf Tryd.f4)) [] [4] (nl_F2 ls v) (nl_T2 ls v) K)) := (seg_join (c := (sqR 1 (bodyOf Tryd.f4))) (a := sqA (sqR 1 (bodyOf Tryd.f4))) (b := (sqR 2 (bodyOf Tryd.f4))) (ds := [5, 6, 7, 8, 4]) (by kernel_rfl) (by kernel_rfl) (by kernel_rfl) (by kernel_rfl) (by kernel_rfl) (by kernel_rfl) (nl_q1 ls v) K).trans (condC3 rfl (ex_same (by kernel_rfl) (by kernel_rfl)))
theorem nl_e1_0 (_ls : List D) (_v : ByteArray) : (finK (nl_E) true Tryd.f4 (callFin [] [])) (Exit.ret) (mkF 26 [(4, .dat (.bool true))]) ([]) = some (([.dat (.bool true)], []) : Res) := by kernel_rfl
theorem nl_r2 (ls : List D) (v : ByteArray) (K : Kt) : ex (Env.rebase (nl_E) 0) [4] (sqA (sqR 2 (bodyOf Tryd.f4))) [] [4] (nl_F2 ls v) (nl_T2 ls v) K = (cond (index_pre ls) ((cond (okSt ls) ((cond (D.eqb (D.bool (index_v0 ls v == rindex_v0 ls v)) (D.bool true)) ((cond (apart_pre ls) ((cond (okSt ls) ((cond (D.eqb (D.bool (false != (apart_v0 ls == rapart_v0 ls))) (D.bool true)) (K .normal (mkF 26 [(0, .dat (.slc Sh.one ls)), (1, .dat (.str v)), (4, .dat (.bool true)), (9, .dat (.bool true)), (10, .dat (.bool true)), (17, .dat (.bool true)), (18, .dat (.bool true)), (19, .dat (.bool true)), (24, .dat (.bool true)), (25, .dat (.bool true))]) ([])) (none))) (none))) (none))) (none))) (none))) (none)) := by kernel_rfl
theorem nl_q2 (ls : List D) (v : ByteArray) (K : Kt) : ex (Env.rebase (nl_E) 0) [4] (sqA (sqR 2 (bodyOf Tryd.f4))) [] [4] (nl_F2 ls v) (nl_T2 ls v) K = (cond (index_pre ls && (okSt ls && (index_v0 ls v == rindex_v0 ls v && (apart_pre ls && apart_v0 ls == rapart_v0 ls)))) (K .normal (mkF 26 [(0, .dat (.slc Sh.one ls)), (1, .dat (.str v)), (4, .dat (.bool true)), (9, .dat (.bool true)), (10, .dat (.bool true)), (17, .dat (.bool true)), (18, .dat (.bool true)), (19, .dat (.bool true)), (24, .dat (.bool true)), (25, .dat (.bool true))]) ([])) none) := (nl_r2 ls v K).trans (by
  generalize (index_v0 ls v == rindex_v0 ls v) = z0
  generalize (apart_v0 ls == rapart_v0 ls) = z1
  generalize (okSt ls) = z2
  generalize (index_pre ls) = z3
  generalize (apart_pre ls) = z4
  cases z3 with
  | true =>
   cases z2 with
   | true =>
    cases z0 with
    | true =>
     cases z4 with
     | true =>
      cases z1 with
      | true =>
       rfl
      | false =>
       rfl
     | false =>
      rfl
    | false =>
     rfl
   | false =>
    rfl
  | false =>
   rfl
  )
def nl_F3 (ls : List D) (v : ByteArray) : Frame' := mkF 26 [(0, .dat (.slc Sh.one ls)), (1, .dat (.str v)), (4, .dat (.bool true)), (9, .dat (.bool true)), (10, .dat (.bool true)), (17, .dat (.bool true)), (18, .dat (.bool true)), (19, .dat (.bool true)), (24, .dat (.bool true)), (25, .dat (.bool true))]
def nl_T3 (_ls : List D) (_v : ByteArray) : Store := []
def nl_p2 (ls : List D) (v : ByteArray) : Bool := index_pre ls && (okSt ls && (index_v0 ls v == rindex_v0 ls v && (apart_pre ls && apart_v0 ls == rapart_v0 ls)))
theorem nl_s2 (ls : List D) (v : ByteArray) (K : Kt) : ex (Env.rebase (nl_E) 0) [4] (sqR 2 (bodyOf Tryd.f4)) [] [4] (nl_F2 ls v) (nl_T2 ls v) K = (cond (nl_p2 ls v) (ex (Env.rebase (nl_E) 0) [4] (sqR 3 (bodyOf Tryd.f4)) [] [4] (nl_F3 ls v) (nl_T3 ls v) K) none) := (seg_str (c := (sqR 2 (bodyOf Tryd.f4))) (a := sqA (sqR 2 (bodyOf Tryd.f4))) (b := (sqR 3 (bodyOf Tryd.f4))) (by kernel_rfl) (by kernel_rfl) (by kernel_rfl) (nl_q2 ls v) K).trans (condC (seqK_normal (by kernel_rfl) (by kernel_rfl)))
theorem nl_q3 (ls : List D) (v : ByteArray) (K : Kt) : ex (Env.rebase (nl_E) 0) [4] (sqR 3 (bodyOf Tryd.f4)) [] [4] (nl_F3 ls v) (nl_T3 ls v) K = K (Exit.ret) (mkF 26 [(4, .dat (.bool true))]) ([]) := by kernel_rfl
theorem nl_s3 (ls : List D) (v : ByteArray) (K : Kt) : ex (Env.rebase (nl_E) 0) [4] (sqR 3 (bodyOf Tryd.f4)) [] [4] (nl_F3 ls v) (nl_T3 ls v) K = K (Exit.ret) (mkF 26 [(4, .dat (.bool true))]) ([]) := (nl_q3 ls v K).trans rfl
theorem nl_e3_0 (_ls : List D) (_v : ByteArray) : (finK (nl_E) true Tryd.f4 (callFin [] [])) (Exit.ret) (mkF 26 [(4, .dat (.bool true))]) ([]) = some (([.dat (.bool true)], []) : Res) := by kernel_rfl
def C_nl : FunT := fun args σ => match args, σ with
  | [AV.dat (D.slc Sh.one ls), AV.dat (D.str v)], [] => .br (nl_c1_0 ls) (.leaf ([AV.dat (D.bool true)], [])) (.chk (nl_p2 ls v) (.leaf ([AV.dat (D.bool true)], [])))
  | _, _ => .fail
theorem nl_case0 (ls : List D) (v : ByteArray) : runF (envOf tab SpI [] [] HI) true Tryd.f4 [.dat (.slc .one ls), .dat (.str v)] [] = FunT.run C_nl [.dat (.slc .one ls), .dat (.str v)] [] := ((nl_start ls v).trans ((nl_s0 ls v _).trans ((nl_s1 ls v _).trans ((condC (nl_e1_0 ls v)).trans (condC2 ((nl_s2 ls v _).trans (condC ((nl_s3 ls v _).trans (nl_e3_0 ls v))))))))).trans (by kernel_rfl)
theorem cnl_ok : FunOk Tryd.prog 4 (FunT.run C_nl) := by
  refine fun_ok (E := nl_E) (fz := true) (fn := Tryd.f4) (envOf_ok progOk SpI_ok) (by kernel_rfl) (by kernel_rfl) (loops_none (by kernel_rfl)) ?_
  intro args σ r h
  unfold C_nl at h
  split at h
  · exact (nl_case0 _ _).trans h
  · simp [T.run_fail] at h
end Go.Proofs.YtniombjfbdojjaaDoor
