/- Seat 03: NameTells' run. -/
import Derived.Test.YtniombjfbdojjaaDoorP
namespace Go.Proofs.YtniombjfbdojjaaDoor
open Go.AX
set_option maxRecDepth 100000
abbrev SpQ : Specs := [(6, C_alive), (7, C_nright), (8, C_rright), (9, C_textc), (10, C_rtext), (11, C_cleanc), (12, C_rclean)]
theorem SpQ_ok : SpecsOk Tryd.prog SpQ := .cons calive_ok (.cons cnright_ok (.cons crright_ok (.cons ctextc_ok (.cons crtext_ok (.cons ccleanc_ok (.cons crclean_ok (.nil _)))))))
abbrev HQ : Hints := [(999999, 6, [.is 6 (aBool true)]), (999999, 7, [.is 7 (aBool true)]), (999999, 13, [.is 13 (aBool true)]), (999999, 20, [.is 20 (aBool true)]), (999999, 27, [.is 27 (aBool true)])]
abbrev ntl_E : Env := envOf tab SpQ [] [] HQ
def ntl_F0 (s : ByteArray) : Frame' := mkF 29 [(0, .dat (.str s))]
def ntl_T0 (_s : ByteArray) : Store := []
theorem ntl_start (s : ByteArray) : runF (envOf tab SpQ [] [] HQ) true Tryd.f3 [.dat (.str s)] [] = ex (Env.rebase (ntl_E) 0) [2] (sqR 0 (bodyOf Tryd.f3)) [] [2] (ntl_F0 s) (ntl_T0 s) (finK (ntl_E) true Tryd.f3 (callFin [] [])) := run_start (ρ := []) (args' := [.dat (.str s)]) (by kernel_rfl) (by kernel_rfl) (by kernel_rfl) (by kernel_rfl) (by kernel_rfl) (by kernel_rfl) (by kernel_rfl) (by kernel_rfl) (by kernel_rfl)
theorem ntl_q0 (s : ByteArray) (K : Kt) : ex (Env.rebase (ntl_E) 0) [2] (sqA (sqR 0 (bodyOf Tryd.f3))) [] [0] (ntl_F0 s) (ntl_T0 s) K = K .normal (mkF 29 [(0, .dat (.str s)), (2, .dat (.bool false))]) ([]) := by kernel_rfl
def ntl_F1 (s : ByteArray) : Frame' := mkF 29 [(0, .dat (.str s)), (2, .dat (.bool false))]
def ntl_T1 (_s : ByteArray) : Store := []
theorem ntl_s0 (s : ByteArray) (K : Kt) : ex (Env.rebase (ntl_E) 0) [2] (sqR 0 (bodyOf Tryd.f3)) [] [2] (ntl_F0 s) (ntl_T0 s) K = ex (Env.rebase (ntl_E) 0) [2] (sqR 1 (bodyOf Tryd.f3)) [] [2] (ntl_F1 s) (ntl_T1 s) K := (seg_str (c := (sqR 0 (bodyOf Tryd.f3))) (a := sqA (sqR 0 (bodyOf Tryd.f3))) (b := (sqR 1 (bodyOf Tryd.f3))) (by kernel_rfl) (by kernel_rfl) (by kernel_rfl) (ntl_q0 s) K).trans (seqK_normal (by kernel_rfl) (by kernel_rfl))
theorem ntl_r1 (s : ByteArray) (J : List AV → Store → Option Res) (K : Kt) : ex (Env.rebase (ntl_E) 0) [2] (sqA (sqR 1 (bodyOf Tryd.f3))) [] [0] (ntl_F1 s) (ntl_T1 s) (jK [] J K) = (cond (decide ((↑(ByteArray.size s) : Int) > 1000)) (K (Exit.ret) (mkF 29 [(2, .dat (.bool true))]) ([])) (J ([]) ([]))) := by kernel_rfl
theorem ntl_q1 (s : ByteArray) (J : List AV → Store → Option Res) (K : Kt) : ex (Env.rebase (ntl_E) 0) [2] (sqA (sqR 1 (bodyOf Tryd.f3))) [] [0] (ntl_F1 s) (ntl_T1 s) (jK [] J K) = (cond (decide (1000 < (↑(ByteArray.size s) : Int))) (K (Exit.ret) (mkF 29 [(2, .dat (.bool true))]) ([])) (J ([]) ([]))) := (ntl_r1 s J K).trans (by
  generalize (decide (1000 < (↑(ByteArray.size s) : Int))) = z0
  cases z0 with
  | true =>
   rfl
  | false =>
   rfl
  )
def ntl_F2 (s : ByteArray) : Frame' := mkF 29 [(0, .dat (.str s))]
def ntl_T2 (_s : ByteArray) : Store := []
def ntl_c1_0 (s : ByteArray) : Bool := decide (1000 < (↑(ByteArray.size s) : Int))
theorem ntl_s1 (s : ByteArray) (K : Kt) : ex (Env.rebase (ntl_E) 0) [2] (sqR 1 (bodyOf Tryd.f3)) [] [2] (ntl_F1 s) (ntl_T1 s) K = (cond (ntl_c1_0 s) (K (Exit.ret) (mkF 29 [(2, .dat (.bool true))]) ([])) (ex (Env.rebase (ntl_E) 0) [2] (sqR 2 (bodyOf Tryd.f3)) [] [2] (ntl_F2 s) (ntl_T2 s) K)) := (seg_join (c := (sqR 1 (bodyOf Tryd.f3))) (a := sqA (sqR 1 (bodyOf Tryd.f3))) (b := (sqR 2 (bodyOf Tryd.f3))) (ds := [3, 4, 5, 6, 2]) (by kernel_rfl) (by kernel_rfl) (by kernel_rfl) (by kernel_rfl) (by kernel_rfl) (by kernel_rfl) (ntl_q1 s) K).trans (condC3 rfl (ex_same (by kernel_rfl) (by kernel_rfl)))
theorem ntl_e1_0 (_s : ByteArray) : (finK (ntl_E) true Tryd.f3 (callFin [] [])) (Exit.ret) (mkF 29 [(2, .dat (.bool true))]) ([]) = some (([.dat (.bool true)], []) : Res) := by kernel_rfl
theorem ntl_r2 (s : ByteArray) (K : Kt) : ex (Env.rebase (ntl_E) 0) [2] (sqA (sqR 2 (bodyOf Tryd.f3))) [] [2] (ntl_F2 s) (ntl_T2 s) K = (cond (nright_pre s) ((cond (rright_pre s) ((cond (D.eqb (D.bool (false != (nright_v0 s == rright_v0 s))) (D.bool true)) ((cond (okS s) ((cond (rtext_pre s) ((cond (D.eqb (D.bool (false != (txB (tl s) == rtext_v0 s))) (D.bool true)) ((cond (okS s) ((cond (rclean_pre s) ((cond (D.eqb (D.bool (decide (clL (tl s) = Array.toList (ByteArray.data (rclean_v0 s))))) (D.bool true)) (K .normal (mkF 29 [(0, .dat (.str s)), (2, .dat (.bool true)), (7, .dat (.bool true)), (8, .dat (.bool true)), (13, .dat (.bool true)), (14, .dat (.bool true)), (15, .dat (.bool true)), (20, .dat (.bool true)), (21, .dat (.bool true)), (22, .dat (.bool true)), (27, .dat (.bool true)), (28, .dat (.bool true))]) ([])) (none))) (none))) (none))) (none))) (none))) (none))) (none))) (none))) (none)) := by kernel_rfl
theorem ntl_q2 (s : ByteArray) (K : Kt) : ex (Env.rebase (ntl_E) 0) [2] (sqA (sqR 2 (bodyOf Tryd.f3))) [] [2] (ntl_F2 s) (ntl_T2 s) K = (cond (nright_pre s && (rright_pre s && (nright_v0 s == rright_v0 s && (okS s && (rtext_pre s && (txB (tl s) == rtext_v0 s && (rclean_pre s && decide (clL (tl s) = Array.toList (ByteArray.data (rclean_v0 s)))))))))) (K .normal (mkF 29 [(0, .dat (.str s)), (2, .dat (.bool true)), (7, .dat (.bool true)), (8, .dat (.bool true)), (13, .dat (.bool true)), (14, .dat (.bool true)), (15, .dat (.bool true)), (20, .dat (.bool true)), (21, .dat (.bool true)), (22, .dat (.bool true)), (27, .dat (.bool true)), (28, .dat (.bool true))]) ([])) none) := (ntl_r2 s K).trans (by
  generalize (decide (clL (tl s) = Array.toList (ByteArray.data (rclean_v0 s)))) = z0
  generalize (txB (tl s) == rtext_v0 s) = z1
  generalize (nright_v0 s == rright_v0 s) = z2
  generalize (nright_pre s) = z3
  generalize (okS s) = z4
  generalize (rtext_pre s) = z5
  generalize (rright_pre s) = z6
  generalize (rclean_pre s) = z7
  cases z3 with
  | true =>
   cases z6 with
   | true =>
    cases z2 with
    | true =>
     cases z4 with
     | true =>
      cases z5 with
      | true =>
       cases z1 with
       | true =>
        cases z7 with
        | true =>
         cases z0 with
         | true =>
          rfl
         | false =>
          rfl
        | false =>
         rfl
       | false =>
        rfl
      | false =>
       rfl
     | false =>
      rfl
    | false =>
     rfl
   | false =>
    rfl
  | false =>
   rfl
  )
def ntl_F3 (s : ByteArray) : Frame' := mkF 29 [(0, .dat (.str s)), (2, .dat (.bool true)), (7, .dat (.bool true)), (8, .dat (.bool true)), (13, .dat (.bool true)), (14, .dat (.bool true)), (15, .dat (.bool true)), (20, .dat (.bool true)), (21, .dat (.bool true)), (22, .dat (.bool true)), (27, .dat (.bool true)), (28, .dat (.bool true))]
def ntl_T3 (_s : ByteArray) : Store := []
def ntl_p2 (s : ByteArray) : Bool := nright_pre s && (rright_pre s && (nright_v0 s == rright_v0 s && (okS s && (rtext_pre s && (txB (tl s) == rtext_v0 s && (rclean_pre s && decide (clL (tl s) = Array.toList (ByteArray.data (rclean_v0 s)))))))))
theorem ntl_s2 (s : ByteArray) (K : Kt) : ex (Env.rebase (ntl_E) 0) [2] (sqR 2 (bodyOf Tryd.f3)) [] [2] (ntl_F2 s) (ntl_T2 s) K = (cond (ntl_p2 s) (ex (Env.rebase (ntl_E) 0) [2] (sqR 3 (bodyOf Tryd.f3)) [] [2] (ntl_F3 s) (ntl_T3 s) K) none) := (seg_str (c := (sqR 2 (bodyOf Tryd.f3))) (a := sqA (sqR 2 (bodyOf Tryd.f3))) (b := (sqR 3 (bodyOf Tryd.f3))) (by kernel_rfl) (by kernel_rfl) (by kernel_rfl) (ntl_q2 s) K).trans (condC (seqK_normal (by kernel_rfl) (by kernel_rfl)))
theorem ntl_q3 (s : ByteArray) (K : Kt) : ex (Env.rebase (ntl_E) 0) [2] (sqR 3 (bodyOf Tryd.f3)) [] [2] (ntl_F3 s) (ntl_T3 s) K = K (Exit.ret) (mkF 29 [(2, .dat (.bool true))]) ([]) := by kernel_rfl
theorem ntl_s3 (s : ByteArray) (K : Kt) : ex (Env.rebase (ntl_E) 0) [2] (sqR 3 (bodyOf Tryd.f3)) [] [2] (ntl_F3 s) (ntl_T3 s) K = K (Exit.ret) (mkF 29 [(2, .dat (.bool true))]) ([]) := (ntl_q3 s K).trans rfl
theorem ntl_e3_0 (_s : ByteArray) : (finK (ntl_E) true Tryd.f3 (callFin [] [])) (Exit.ret) (mkF 29 [(2, .dat (.bool true))]) ([]) = some (([.dat (.bool true)], []) : Res) := by kernel_rfl
def C_ntl : FunT := fun args σ => match args, σ with
  | [AV.dat (D.str s)], [] => .br (ntl_c1_0 s) (.leaf ([AV.dat (D.bool true)], [])) (.chk (ntl_p2 s) (.leaf ([AV.dat (D.bool true)], [])))
  | _, _ => .fail
theorem ntl_case0 (s : ByteArray) : runF (envOf tab SpQ [] [] HQ) true Tryd.f3 [.dat (.str s)] [] = FunT.run C_ntl [.dat (.str s)] [] := ((ntl_start s).trans ((ntl_s0 s _).trans ((ntl_s1 s _).trans ((condC (ntl_e1_0 s)).trans (condC2 ((ntl_s2 s _).trans (condC ((ntl_s3 s _).trans (ntl_e3_0 s))))))))).trans (by kernel_rfl)
theorem cntl_ok : FunOk Tryd.prog 3 (FunT.run C_ntl) := by
  refine fun_ok (E := ntl_E) (fz := true) (fn := Tryd.f3) (envOf_ok progOk SpQ_ok) (by kernel_rfl) (by kernel_rfl) (loops_none (by kernel_rfl)) ?_
  intro args σ r h
  unfold C_ntl at h
  split at h
  · exact (ntl_case0 _).trans h
  · simp [T.run_fail] at h
end Go.Proofs.YtniombjfbdojjaaDoor
