/- Seat 03: NameClean's run. -/
import Derived.Test.YtniombjfbdojjaaDoorK
namespace Go.Proofs.YtniombjfbdojjaaDoor
open Go.AX
set_option maxRecDepth 100000
abbrev SpL : Specs := [(6, C_alive), (7, C_nright), (9, C_textc), (11, C_cleanc)]
theorem SpL_ok : SpecsOk Tryd.prog SpL := .cons calive_ok (.cons cnright_ok (.cons ctextc_ok (.cons ccleanc_ok (.nil _))))
abbrev HL : Hints := [(999999, 11, [.is 11 (aBool false)]), (999999, 19, [.is 19 (aBool false)]), (999999, 28, [.is 28 (aBool false)]), (4, 0, [.kill 4, .kill 5]), (999999, 31, [.is 31 (aBool true)]), (999999, 36, [.is 36 (aBool true)]), (999999, 43, [.is 43 (aBool true)])]
abbrev nc_E : Env := envOf tab SpL [] [] HL
def nc_F0 (s : ByteArray) : Frame' := mkF 45 [(0, .dat (.str s))]
def nc_T0 (_s : ByteArray) : Store := []
theorem nc_start (s : ByteArray) : runF (envOf tab SpL [] [] HL) true Tryd.f5 [.dat (.str s)] [] = ex (Env.rebase (nc_E) 0) [2] (sqR 0 (bodyOf Tryd.f5)) [] [2] (nc_F0 s) (nc_T0 s) (finK (nc_E) true Tryd.f5 (callFin [] [])) := run_start (ρ := []) (args' := [.dat (.str s)]) (by kernel_rfl) (by kernel_rfl) (by kernel_rfl) (by kernel_rfl) (by kernel_rfl) (by kernel_rfl) (by kernel_rfl) (by kernel_rfl) (by kernel_rfl)
theorem nc_q0 (s : ByteArray) (K : Kt) : ex (Env.rebase (nc_E) 0) [2] (sqA (sqR 0 (bodyOf Tryd.f5))) [] [0] (nc_F0 s) (nc_T0 s) K = K .normal (mkF 45 [(0, .dat (.str s)), (2, .dat (.bool false))]) ([]) := by kernel_rfl
def nc_F1 (s : ByteArray) : Frame' := mkF 45 [(0, .dat (.str s)), (2, .dat (.bool false))]
def nc_T1 (_s : ByteArray) : Store := []
theorem nc_s0 (s : ByteArray) (K : Kt) : ex (Env.rebase (nc_E) 0) [2] (sqR 0 (bodyOf Tryd.f5)) [] [2] (nc_F0 s) (nc_T0 s) K = ex (Env.rebase (nc_E) 0) [2] (sqR 1 (bodyOf Tryd.f5)) [] [2] (nc_F1 s) (nc_T1 s) K := (seg_str (c := (sqR 0 (bodyOf Tryd.f5))) (a := sqA (sqR 0 (bodyOf Tryd.f5))) (b := (sqR 1 (bodyOf Tryd.f5))) (by kernel_rfl) (by kernel_rfl) (by kernel_rfl) (nc_q0 s) K).trans (seqK_normal (by kernel_rfl) (by kernel_rfl))
theorem nc_r1 (s : ByteArray) (K : Kt) : ex (Env.rebase (nc_E) 0) [2] (sqA (sqR 1 (bodyOf Tryd.f5))) [] [3, 0] (nc_F1 s) (nc_T1 s) K = (cond (okS s) (K .normal (mkF 45 [(0, .dat (.str s)), (2, .dat (.bool false)), (3, .dat (.str (mkS (clL (tl s))))), (4, .dat (.str s)), (5, .dat (.str (mkS (clL (tl s)))))]) ([])) (none)) := by kernel_rfl
theorem nc_q1 (s : ByteArray) (K : Kt) : ex (Env.rebase (nc_E) 0) [2] (sqA (sqR 1 (bodyOf Tryd.f5))) [] [3, 0] (nc_F1 s) (nc_T1 s) K = (cond (okS s) (K .normal (mkF 45 [(0, .dat (.str s)), (2, .dat (.bool false)), (3, .dat (.str (mkS (clL (tl s))))), (4, .dat (.str s)), (5, .dat (.str (mkS (clL (tl s)))))]) ([])) none) := (nc_r1 s K).trans (by
  generalize (okS s) = z0
  cases z0 with
  | true =>
   rfl
  | false =>
   rfl
  )
def nc_F2 (s : ByteArray) : Frame' := mkF 45 [(0, .dat (.str s)), (2, .dat (.bool false)), (3, .dat (.str (mkS (clL (tl s))))), (4, .dat (.str s)), (5, .dat (.str (mkS (clL (tl s)))))]
def nc_T2 (_s : ByteArray) : Store := []
def nc_p1 (s : ByteArray) : Bool := okS s
theorem nc_s1 (s : ByteArray) (K : Kt) : ex (Env.rebase (nc_E) 0) [2] (sqR 1 (bodyOf Tryd.f5)) [] [2] (nc_F1 s) (nc_T1 s) K = (cond (nc_p1 s) (ex (Env.rebase (nc_E) 0) [2] (sqR 2 (bodyOf Tryd.f5)) [] [2] (nc_F2 s) (nc_T2 s) K) none) := (seg_str (c := (sqR 1 (bodyOf Tryd.f5))) (a := sqA (sqR 1 (bodyOf Tryd.f5))) (b := (sqR 2 (bodyOf Tryd.f5))) (by kernel_rfl) (by kernel_rfl) (by kernel_rfl) (nc_q1 s) K).trans (condC (seqK_normal (by kernel_rfl) (by kernel_rfl)))
theorem nc_r2 (s : ByteArray) (J : List AV → Store → Option Res) (K : Kt) : ex (Env.rebase (nc_E) 0) [2] (sqA (sqR 2 (bodyOf Tryd.f5))) [] [3, 0] (nc_F2 s) (nc_T2 s) (jK [] J K) = (cond (nright_pre s) ((cond (nright_v0 s) ((cond (okS s) ((cond (D.eqb (D.bool !txB (tl s)) (D.bool false)) ((cond (okS s) ((cond (txB (tl s)) ((cond (D.eqb (D.bool !decide (clL (tl s) = Array.toList (ByteArray.data s))) (D.bool false)) ((cond (!decide (clL (tl s) = [])) ((cond (okS (mkS (clL (tl s)))) ((cond (D.eqb (D.bool !txB (tl (mkS (clL (tl s))))) (D.bool false)) (J ([]) ([])) (none))) (none))) (J ([]) ([])))) (none))) ((cond (!decide (clL (tl s) = [])) ((cond (okS (mkS (clL (tl s)))) ((cond (D.eqb (D.bool !txB (tl (mkS (clL (tl s))))) (D.bool false)) (J ([]) ([])) (none))) (none))) (J ([]) ([])))))) (none))) (none))) (none))) ((cond (okS s) ((cond (txB (tl s)) ((cond (D.eqb (D.bool !decide (clL (tl s) = Array.toList (ByteArray.data s))) (D.bool false)) ((cond (!decide (clL (tl s) = [])) ((cond (okS (mkS (clL (tl s)))) ((cond (D.eqb (D.bool !txB (tl (mkS (clL (tl s))))) (D.bool false)) (J ([]) ([])) (none))) (none))) (J ([]) ([])))) (none))) ((cond (!decide (clL (tl s) = [])) ((cond (okS (mkS (clL (tl s)))) ((cond (D.eqb (D.bool !txB (tl (mkS (clL (tl s))))) (D.bool false)) (J ([]) ([])) (none))) (none))) (J ([]) ([])))))) (none))))) (none)) := by kernel_rfl
theorem nc_q2 (s : ByteArray) (J : List AV → Store → Option Res) (K : Kt) : ex (Env.rebase (nc_E) 0) [2] (sqA (sqR 2 (bodyOf Tryd.f5))) [] [3, 0] (nc_F2 s) (nc_T2 s) (jK [] J K) = (cond (nright_pre s && bif nright_v0 s then okS s && (txB (tl s) && (decide (clL (tl s) = Array.toList (ByteArray.data s)) && (decide (clL (tl s) = []) || okS (mkS (clL (tl s))) && txB (tl (mkS (clL (tl s))))))) else okS s && bif txB (tl s) then decide (clL (tl s) = Array.toList (ByteArray.data s)) && (decide (clL (tl s) = []) || okS (mkS (clL (tl s))) && txB (tl (mkS (clL (tl s))))) else decide (clL (tl s) = []) || okS (mkS (clL (tl s))) && txB (tl (mkS (clL (tl s))))) (J ([]) ([])) none) := (nc_r2 s J K).trans (by
  generalize (decide (clL (tl s) = Array.toList (ByteArray.data s))) = z0
  generalize (decide (clL (tl s) = [])) = z1
  generalize (txB (tl (mkS (clL (tl s))))) = z2
  generalize (okS (mkS (clL (tl s)))) = z3
  generalize (txB (tl s)) = z4
  generalize (nright_v0 s) = z5
  generalize (okS s) = z6
  generalize (nright_pre s) = z7
  cases z7 with
  | true =>
   cases z5 with
   | true =>
    cases z6 with
    | true =>
     cases z4 with
     | true =>
      cases z0 with
      | true =>
       cases z1 with
       | true =>
        rfl
       | false =>
        cases z3 with
        | true =>
         cases z2 with
         | true =>
          rfl
         | false =>
          rfl
        | false =>
         rfl
      | false =>
       rfl
     | false =>
      rfl
    | false =>
     rfl
   | false =>
    cases z6 with
    | true =>
     cases z4 with
     | true =>
      cases z0 with
      | true =>
       cases z1 with
       | true =>
        rfl
       | false =>
        cases z3 with
        | true =>
         cases z2 with
         | true =>
          rfl
         | false =>
          rfl
        | false =>
         rfl
      | false =>
       rfl
     | false =>
      cases z1 with
      | true =>
       rfl
      | false =>
       cases z3 with
       | true =>
        cases z2 with
        | true =>
         rfl
        | false =>
         rfl
       | false =>
        rfl
    | false =>
     rfl
  | false =>
   rfl
  )
def nc_F3 (s : ByteArray) : Frame' := mkF 45 [(0, .dat (.str s)), (3, .dat (.str (mkS (clL (tl s))))), (4, .dat (.str s)), (5, .dat (.str (mkS (clL (tl s)))))]
def nc_T3 (_s : ByteArray) : Store := []
def nc_p2 (s : ByteArray) : Bool := nright_pre s && bif nright_v0 s then okS s && (txB (tl s) && (decide (clL (tl s) = Array.toList (ByteArray.data s)) && (decide (clL (tl s) = []) || okS (mkS (clL (tl s))) && txB (tl (mkS (clL (tl s))))))) else okS s && bif txB (tl s) then decide (clL (tl s) = Array.toList (ByteArray.data s)) && (decide (clL (tl s) = []) || okS (mkS (clL (tl s))) && txB (tl (mkS (clL (tl s))))) else decide (clL (tl s) = []) || okS (mkS (clL (tl s))) && txB (tl (mkS (clL (tl s))))
theorem nc_s2 (s : ByteArray) (K : Kt) : ex (Env.rebase (nc_E) 0) [2] (sqR 2 (bodyOf Tryd.f5)) [] [2] (nc_F2 s) (nc_T2 s) K = (cond (nc_p2 s) (ex (Env.rebase (nc_E) 0) [2] (sqR 3 (bodyOf Tryd.f5)) [] [2] (nc_F3 s) (nc_T3 s) K) none) := (seg_join (c := (sqR 2 (bodyOf Tryd.f5))) (a := sqA (sqR 2 (bodyOf Tryd.f5))) (b := (sqR 3 (bodyOf Tryd.f5))) (ds := [6, 7, 8, 9, 10, 11, 12, 13, 14, 15, 16, 17, 18, 19, 20, 21, 22, 23, 24, 25, 26, 27, 28, 29, 30, 2]) (by kernel_rfl) (by kernel_rfl) (by kernel_rfl) (by kernel_rfl) (by kernel_rfl) (by kernel_rfl) (nc_q2 s) K).trans (condC (ex_same (by kernel_rfl) (by kernel_rfl)))
theorem nc_r3 (s : ByteArray) (K : Kt) : ex (Env.rebase (nc_E) 0) [2] (sqA (sqR 3 (bodyOf Tryd.f5))) [] [2] (nc_F3 s) (nc_T3 s) K = (cond (okS (mkS (clL (tl s)))) ((cond (D.eqb (D.bool (decide (clL (tl (mkS (clL (tl s)))) = clL (tl s)))) (D.bool true)) ((cond (D.eqb (D.bool (decide ((↑(ByteArray.size (mkS (clL (tl s)))) : Int) ≤ (↑(ByteArray.size s) : Int)))) (D.bool true)) (K .normal (mkF 45 [(0, .dat (.str s)), (2, .dat (.bool true)), (3, .dat (.str (mkS (clL (tl s))))), (31, .dat (.bool true)), (32, .dat (.bool true)), (36, .dat (.bool true)), (37, .dat (.bool true)), (38, .dat (.bool true)), (43, .dat (.bool true)), (44, .dat (.bool true))]) ([])) (none))) (none))) (none)) := by kernel_rfl
theorem nc_q3 (s : ByteArray) (K : Kt) : ex (Env.rebase (nc_E) 0) [2] (sqA (sqR 3 (bodyOf Tryd.f5))) [] [2] (nc_F3 s) (nc_T3 s) K = (cond (okS (mkS (clL (tl s))) && (decide (clL (tl (mkS (clL (tl s)))) = clL (tl s)) && decide ((↑(ByteArray.size (mkS (clL (tl s)))) : Int) ≤ (↑(ByteArray.size s) : Int)))) (K .normal (mkF 45 [(0, .dat (.str s)), (2, .dat (.bool true)), (3, .dat (.str (mkS (clL (tl s))))), (31, .dat (.bool true)), (32, .dat (.bool true)), (36, .dat (.bool true)), (37, .dat (.bool true)), (38, .dat (.bool true)), (43, .dat (.bool true)), (44, .dat (.bool true))]) ([])) none) := (nc_r3 s K).trans (by
  generalize (decide ((↑(ByteArray.size (mkS (clL (tl s)))) : Int) ≤ (↑(ByteArray.size s) : Int))) = z0
  generalize (decide (clL (tl (mkS (clL (tl s)))) = clL (tl s))) = z1
  generalize (okS (mkS (clL (tl s)))) = z2
  cases z2 with
  | true =>
   cases z1 with
   | true =>
    cases z0 with
    | true =>
     rfl
    | false =>
     rfl
   | false =>
    rfl
  | false =>
   rfl
  )
def nc_F4 (s : ByteArray) : Frame' := mkF 45 [(0, .dat (.str s)), (2, .dat (.bool true)), (3, .dat (.str (mkS (clL (tl s))))), (31, .dat (.bool true)), (32, .dat (.bool true)), (36, .dat (.bool true)), (37, .dat (.bool true)), (38, .dat (.bool true)), (43, .dat (.bool true)), (44, .dat (.bool true))]
def nc_T4 (_s : ByteArray) : Store := []
def nc_p3 (s : ByteArray) : Bool := okS (mkS (clL (tl s))) && (decide (clL (tl (mkS (clL (tl s)))) = clL (tl s)) && decide ((↑(ByteArray.size (mkS (clL (tl s)))) : Int) ≤ (↑(ByteArray.size s) : Int)))
theorem nc_s3 (s : ByteArray) (K : Kt) : ex (Env.rebase (nc_E) 0) [2] (sqR 3 (bodyOf Tryd.f5)) [] [2] (nc_F3 s) (nc_T3 s) K = (cond (nc_p3 s) (ex (Env.rebase (nc_E) 0) [2] (sqR 4 (bodyOf Tryd.f5)) [] [2] (nc_F4 s) (nc_T4 s) K) none) := (seg_str (c := (sqR 3 (bodyOf Tryd.f5))) (a := sqA (sqR 3 (bodyOf Tryd.f5))) (b := (sqR 4 (bodyOf Tryd.f5))) (by kernel_rfl) (by kernel_rfl) (by kernel_rfl) (nc_q3 s) K).trans (condC (seqK_normal (by kernel_rfl) (by kernel_rfl)))
theorem nc_q4 (s : ByteArray) (K : Kt) : ex (Env.rebase (nc_E) 0) [2] (sqR 4 (bodyOf Tryd.f5)) [] [2] (nc_F4 s) (nc_T4 s) K = K (Exit.ret) (mkF 45 [(2, .dat (.bool true))]) ([]) := by kernel_rfl
theorem nc_s4 (s : ByteArray) (K : Kt) : ex (Env.rebase (nc_E) 0) [2] (sqR 4 (bodyOf Tryd.f5)) [] [2] (nc_F4 s) (nc_T4 s) K = K (Exit.ret) (mkF 45 [(2, .dat (.bool true))]) ([]) := (nc_q4 s K).trans rfl
theorem nc_e4_0 (_s : ByteArray) : (finK (nc_E) true Tryd.f5 (callFin [] [])) (Exit.ret) (mkF 45 [(2, .dat (.bool true))]) ([]) = some (([.dat (.bool true)], []) : Res) := by kernel_rfl
def C_nc : FunT := fun args σ => match args, σ with
  | [AV.dat (D.str s)], [] => .chk (nc_p1 s) (.chk (nc_p2 s) (.chk (nc_p3 s) (.leaf ([AV.dat (D.bool true)], []))))
  | _, _ => .fail
theorem nc_case0 (s : ByteArray) : runF (envOf tab SpL [] [] HL) true Tryd.f5 [.dat (.str s)] [] = FunT.run C_nc [.dat (.str s)] [] := ((nc_start s).trans ((nc_s0 s _).trans ((nc_s1 s _).trans (condC ((nc_s2 s _).trans (condC ((nc_s3 s _).trans (condC ((nc_s4 s _).trans (nc_e4_0 s)))))))))).trans (by kernel_rfl)
theorem cnc_ok : FunOk Tryd.prog 5 (FunT.run C_nc) := by
  refine fun_ok (E := nc_E) (fz := true) (fn := Tryd.f5) (envOf_ok progOk SpL_ok) (by kernel_rfl) (by kernel_rfl) (loops_none (by kernel_rfl)) ?_
  intro args σ r h
  unfold C_nc at h
  split at h
  · exact (nc_case0 _).trans h
  · simp [T.run_fail] at h
end Go.Proofs.YtniombjfbdojjaaDoor
