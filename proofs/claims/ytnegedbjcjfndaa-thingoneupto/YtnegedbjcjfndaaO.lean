/- Seat 16: ThingOne's run. -/
import Derived.Test.YtnegedbjcjfndaaN
namespace Go.Proofs.Ytnegedbjcjfndaa
open Go.AX
set_option maxRecDepth 100000

abbrev LLr : Loops := [(5, L_oo), (15, L_ol), (25, L_ow)]
abbrev LL : Loops := (9, L_oi) :: (20, L_ok) :: LLr
theorem LL_ok : ∀ x ∈ fnLoops Try.f3, LoopOk (envOf tab SpO [] LL []) x.1 x.2 := loops_all 5 (by kernel_rfl) (fun i hi => match i, hi with
  | 0, _ => oo_loopOk LLr rfl
  | 1, _ => oi_loopOk LL rfl
  | 2, _ => ol_loopOk LLr rfl
  | 3, _ => ok_loopOk LL rfl
  | 4, _ => ow_loopOk LL rfl)
abbrev one_E : Env := envOf tab SpO [] LL []
def one_F0 (ls : List D) : Frame' := mkF 123 [(0, .dat (.slc (Sh.agg [Sh.one, Sh.one, Sh.one, Sh.one, Sh.agg [Sh.one, Sh.one]]) ls))]
def one_T0 (_ls : List D) : Store := []
theorem one_start (ls : List D) : runF (envOf tab SpO [] LL []) true Try.f3 [.dat (.slc (.agg [.one, .one, .one, .one, .agg [.one, .one]]) ls)] [] = ex (Env.rebase (one_E) 0) [2] (sqR 0 (bodyOf Try.f3)) [] [2] (one_F0 ls) (one_T0 ls) (finK (one_E) true Try.f3 (callFin [] [])) := run_start (ρ := []) (args' := [.dat (.slc (Sh.agg [Sh.one, Sh.one, Sh.one, Sh.one, Sh.agg [Sh.one, Sh.one]]) ls)]) (by kernel_rfl) (by kernel_rfl) (by kernel_rfl) (by kernel_rfl) (by kernel_rfl) (by kernel_rfl) (by kernel_rfl) (by kernel_rfl) (by kernel_rfl)
theorem one_q0 (ls : List D) (K : Kt) : ex (Env.rebase (one_E) 0) [2] (sqA (sqR 0 (bodyOf Try.f3))) [] [0] (one_F0 ls) (one_T0 ls) K = K .normal (mkF 123 [(0, .dat (.slc (Sh.agg [Sh.one, Sh.one, Sh.one, Sh.one, Sh.agg [Sh.one, Sh.one]]) ls)), (2, .dat (.bool false))]) ([]) := by kernel_rfl
def one_F1 (ls : List D) : Frame' := mkF 123 [(0, .dat (.slc (Sh.agg [Sh.one, Sh.one, Sh.one, Sh.one, Sh.agg [Sh.one, Sh.one]]) ls)), (2, .dat (.bool false))]
def one_T1 (_ls : List D) : Store := []
theorem one_s0 (ls : List D) (K : Kt) : ex (Env.rebase (one_E) 0) [2] (sqR 0 (bodyOf Try.f3)) [] [2] (one_F0 ls) (one_T0 ls) K = ex (Env.rebase (one_E) 0) [2] (sqR 1 (bodyOf Try.f3)) [] [2] (one_F1 ls) (one_T1 ls) K := (seg_str (c := (sqR 0 (bodyOf Try.f3))) (a := sqA (sqR 0 (bodyOf Try.f3))) (b := (sqR 1 (bodyOf Try.f3))) (by kernel_rfl) (by kernel_rfl) (by kernel_rfl) (one_q0 ls) K).trans (seqK_normal (by kernel_rfl) (by kernel_rfl))
theorem one_r1 (ls : List D) (J : List AV → Store → Option Res) (K : Kt) : ex (Env.rebase (one_E) 0) [2] (sqA (sqR 1 (bodyOf Try.f3))) [] [0] (one_F1 ls) (one_T1 ls) (jK [] J K) = (cond (iw_okL ls) ((cond (!right_v0 ls) (K (Exit.ret) (mkF 123 [(2, .dat (.bool true))]) ([])) ((cond (decide ((↑(List.length ls) : Int) > 60)) (K (Exit.ret) (mkF 123 [(2, .dat (.bool true))]) ([])) (J ([]) ([])))))) (none)) := by kernel_rfl
theorem one_q1 (ls : List D) (J : List AV → Store → Option Res) (K : Kt) : ex (Env.rebase (one_E) 0) [2] (sqA (sqR 1 (bodyOf Try.f3))) [] [0] (one_F1 ls) (one_T1 ls) (jK [] J K) = (cond (iw_okL ls) ((cond (!right_v0 ls || decide (60 < (↑(List.length ls) : Int))) (K (Exit.ret) (mkF 123 [(2, .dat (.bool true))]) ([])) (J ([]) ([])))) none) := (one_r1 ls J K).trans (by
  generalize (decide (60 < (↑(List.length ls) : Int))) = z0
  generalize (iw_okL ls) = z1
  generalize (right_v0 ls) = z2
  cases z1 with
  | true =>
   cases z2 with
   | true =>
    cases z0 with
    | true =>
     rfl
    | false =>
     rfl
   | false =>
    rfl
  | false =>
   rfl
  )
def one_F2 (ls : List D) : Frame' := mkF 123 [(0, .dat (.slc (Sh.agg [Sh.one, Sh.one, Sh.one, Sh.one, Sh.agg [Sh.one, Sh.one]]) ls))]
def one_T2 (_ls : List D) : Store := []
def one_p1 (ls : List D) : Bool := iw_okL ls
def one_c1_0 (ls : List D) : Bool := !right_v0 ls || decide (60 < (↑(List.length ls) : Int))
theorem one_s1 (ls : List D) (K : Kt) : ex (Env.rebase (one_E) 0) [2] (sqR 1 (bodyOf Try.f3)) [] [2] (one_F1 ls) (one_T1 ls) K = (cond (one_p1 ls) ((cond (one_c1_0 ls) (K (Exit.ret) (mkF 123 [(2, .dat (.bool true))]) ([])) (ex (Env.rebase (one_E) 0) [2] (sqR 2 (bodyOf Try.f3)) [] [2] (one_F2 ls) (one_T2 ls) K))) none) := (seg_join (c := (sqR 1 (bodyOf Try.f3))) (a := sqA (sqR 1 (bodyOf Try.f3))) (b := (sqR 2 (bodyOf Try.f3))) (ds := [12, 13, 14, 15, 16, 17, 18, 19, 20, 2]) (by kernel_rfl) (by kernel_rfl) (by kernel_rfl) (by kernel_rfl) (by kernel_rfl) (by kernel_rfl) (one_q1 ls) K).trans (condC (condC3 rfl (ex_same (by kernel_rfl) (by kernel_rfl))))
theorem one_e1_0 (_ls : List D) : (finK (one_E) true Try.f3 (callFin [] [])) (Exit.ret) (mkF 123 [(2, .dat (.bool true))]) ([]) = some (([.dat (.bool true)], []) : Res) := by kernel_rfl
theorem one_r2 (ls : List D) (K : Kt) : ex (Env.rebase (one_E) 0) [2] (sqA (sqR 2 (bodyOf Try.f3))) [] [0, 3] (one_F2 ls) (one_T2 ls) K = (cond (decide ((↑(List.length ls) : Int) ≤ (↑(List.length ls) : Int)) && decide ((↑(List.length ls) : Int) * 8 ≤ 35184372088832) && decide ((↑(List.length ls) : Int) ≤ 35184372088832) && true) (K .normal (mkF 123 [(0, .dat (.slc (Sh.agg [Sh.one, Sh.one, Sh.one, Sh.one, Sh.agg [Sh.one, Sh.one]]) ls)), (3, AV.sref Sh.one 0 (Int.toNat (↑(List.length ls) : Int)) [] 0 (Int.toNat (↑(List.length ls) : Int))), (21, .dat (.slc (Sh.agg [Sh.one, Sh.one, Sh.one, Sh.one, Sh.agg [Sh.one, Sh.one]]) ls)), (22, .dat (.int .i64 (↑(List.length ls) : Int))), (23, AV.sref Sh.one 0 (Int.toNat (↑(List.length ls) : Int)) [] 0 (Int.toNat (↑(List.length ls) : Int)))]) ([{ sh := Sh.arr Sh.one 0, dyn := true, frz := false, v := .dat (.arr Sh.one (List.replicate (Int.toNat (↑(List.length ls) : Int)) (D.int .i64 0))) }])) (none)) := by kernel_rfl
theorem one_q2 (ls : List D) (K : Kt) : ex (Env.rebase (one_E) 0) [2] (sqA (sqR 2 (bodyOf Try.f3))) [] [0, 3] (one_F2 ls) (one_T2 ls) K = (cond (decide ((↑(List.length ls) : Int) ≤ (↑(List.length ls) : Int)) && decide ((↑(List.length ls) : Int) * 8 ≤ 35184372088832) && decide ((↑(List.length ls) : Int) ≤ 35184372088832)) (K .normal (mkF 123 [(0, .dat (.slc (Sh.agg [Sh.one, Sh.one, Sh.one, Sh.one, Sh.agg [Sh.one, Sh.one]]) ls)), (3, AV.sref Sh.one 0 (Int.toNat (↑(List.length ls) : Int)) [] 0 (Int.toNat (↑(List.length ls) : Int))), (21, .dat (.slc (Sh.agg [Sh.one, Sh.one, Sh.one, Sh.one, Sh.agg [Sh.one, Sh.one]]) ls)), (22, .dat (.int .i64 (↑(List.length ls) : Int))), (23, AV.sref Sh.one 0 (Int.toNat (↑(List.length ls) : Int)) [] 0 (Int.toNat (↑(List.length ls) : Int)))]) ([{ sh := Sh.arr Sh.one 0, dyn := true, frz := false, v := .dat (.arr Sh.one (List.replicate (Int.toNat (↑(List.length ls) : Int)) (D.int .i64 0))) }])) none) := (one_r2 ls K).trans (by
  generalize (decide ((↑(List.length ls) : Int) ≤ (↑(List.length ls) : Int)) && decide ((↑(List.length ls) : Int) * 8 ≤ 35184372088832) && decide ((↑(List.length ls) : Int) ≤ 35184372088832)) = z0
  cases z0 with
  | true =>
   rfl
  | false =>
   rfl
  )
def one_w2v0 (ls : List D) : List D := List.replicate (Int.toNat (↑(List.length ls) : Int)) (D.int .i64 0)
def one_F3 (ls : List D) : Frame' := mkF 123 [(0, .dat (.slc (Sh.agg [Sh.one, Sh.one, Sh.one, Sh.one, Sh.agg [Sh.one, Sh.one]]) ls)), (3, AV.sref Sh.one 0 (Int.toNat (↑(List.length ls) : Int)) [] 0 (Int.toNat (↑(List.length ls) : Int))), (21, .dat (.slc (Sh.agg [Sh.one, Sh.one, Sh.one, Sh.one, Sh.agg [Sh.one, Sh.one]]) ls)), (22, .dat (.int .i64 (↑(List.length ls) : Int))), (23, AV.sref Sh.one 0 (Int.toNat (↑(List.length ls) : Int)) [] 0 (Int.toNat (↑(List.length ls) : Int)))]
def one_T3 (ls : List D) : Store := [{ sh := Sh.arr Sh.one 0, dyn := true, frz := false, v := .dat (.arr Sh.one (one_w2v0 ls)) }]
def one_p2 (ls : List D) : Bool := decide ((↑(List.length ls) : Int) ≤ (↑(List.length ls) : Int)) && decide ((↑(List.length ls) : Int) * 8 ≤ 35184372088832) && decide ((↑(List.length ls) : Int) ≤ 35184372088832)
theorem one_s2 (ls : List D) (K : Kt) : ex (Env.rebase (one_E) 0) [2] (sqR 2 (bodyOf Try.f3)) [] [2] (one_F2 ls) (one_T2 ls) K = (cond (one_p2 ls) (ex (Env.rebase (one_E) 0) [2] (sqR 3 (bodyOf Try.f3)) [] [2] (one_F3 ls) (one_T3 ls) K) none) := (seg_str (c := (sqR 2 (bodyOf Try.f3))) (a := sqA (sqR 2 (bodyOf Try.f3))) (b := (sqR 3 (bodyOf Try.f3))) (by kernel_rfl) (by kernel_rfl) (by kernel_rfl) (one_q2 ls) K).trans (condC (seqK_normal (by kernel_rfl) (by kernel_rfl)))
theorem one_r3 (ls : List D) (J : List AV → Store → Option Res) (K : Kt) : ex (Env.rebase (one_E) 1) [2] (sqA (sqR 3 (bodyOf Try.f3))) [] [0, 3] (one_F3 ls) (one_T3 ls) (jK [] J K) = (cond (okM2 ls (Int.toNat (↑(List.length ls) : Int)) (Int.toNat (↑(List.length ls) : Int)) && D.eqbL (one_w2v0 ls) (cnt (hcF ls 0) (List.length ls))) (J ([]) ([{ sh := Sh.arr Sh.one 0, dyn := true, frz := false, v := .dat (.arr Sh.one (cnt (hcF ls 128) (List.length ls))) }])) (none)) := by kernel_rfl
theorem one_q3 (ls : List D) (J : List AV → Store → Option Res) (K : Kt) : ex (Env.rebase (one_E) 1) [2] (sqA (sqR 3 (bodyOf Try.f3))) [] [0, 3] (one_F3 ls) (one_T3 ls) (jK [] J K) = (cond (okM2 ls (Int.toNat (↑(List.length ls) : Int)) (Int.toNat (↑(List.length ls) : Int)) && D.eqbL (one_w2v0 ls) (cnt (hcF ls 0) (List.length ls))) (J ([]) ([{ sh := Sh.arr Sh.one 0, dyn := true, frz := false, v := .dat (.arr Sh.one (cnt (hcF ls 128) (List.length ls))) }])) none) := (one_r3 ls J K).trans (by
  generalize (okM2 ls (Int.toNat (↑(List.length ls) : Int)) (Int.toNat (↑(List.length ls) : Int)) && D.eqbL (one_w2v0 ls) (cnt (hcF ls 0) (List.length ls))) = z0
  cases z0 with
  | true =>
   rfl
  | false =>
   rfl
  )
def one_F4 (ls : List D) : Frame' := mkF 123 [(0, .dat (.slc (Sh.agg [Sh.one, Sh.one, Sh.one, Sh.one, Sh.agg [Sh.one, Sh.one]]) ls)), (3, AV.sref Sh.one 0 (Int.toNat (↑(List.length ls) : Int)) [] 0 (Int.toNat (↑(List.length ls) : Int))), (21, .dat (.slc (Sh.agg [Sh.one, Sh.one, Sh.one, Sh.one, Sh.agg [Sh.one, Sh.one]]) ls)), (22, .dat (.int .i64 (↑(List.length ls) : Int))), (23, AV.sref Sh.one 0 (Int.toNat (↑(List.length ls) : Int)) [] 0 (Int.toNat (↑(List.length ls) : Int)))]
def one_T4 (ls : List D) : Store := [{ sh := Sh.arr Sh.one 0, dyn := true, frz := false, v := .dat (.arr Sh.one (cnt (hcF ls 128) (List.length ls))) }]
def one_p3 (ls : List D) : Bool := okM2 ls (Int.toNat (↑(List.length ls) : Int)) (Int.toNat (↑(List.length ls) : Int)) && D.eqbL (one_w2v0 ls) (cnt (hcF ls 0) (List.length ls))
theorem one_s3 (ls : List D) (K : Kt) : ex (Env.rebase (one_E) 0) [2] (sqR 3 (bodyOf Try.f3)) [] [2] (one_F3 ls) (one_T3 ls) K = (cond (one_p3 ls) (ex (Env.rebase (one_E) 0) [2] (sqR 4 (bodyOf Try.f3)) [] [2] (one_F4 ls) (one_T4 ls) K) none) := (seg_join (c := (sqR 3 (bodyOf Try.f3))) (a := sqA (sqR 3 (bodyOf Try.f3))) (b := (sqR 4 (bodyOf Try.f3))) (ds := [24, 25, 28, 29, 30, 5, 31, 32, 33, 34, 37, 38, 39, 40, 41, 42, 43, 44, 45, 46, 47, 48, 49, 50, 2, 51, 52, 53, 54, 55, 56, 57, 58, 59, 35, 36, 6, 26, 27, 4]) (by kernel_rfl) (by kernel_rfl) (by kernel_rfl) (by kernel_rfl) (by kernel_rfl) (by kernel_rfl) (one_q3 ls) K).trans (condC (ex_same (by kernel_rfl) (by kernel_rfl)))
theorem one_r4 (ls : List D) (J : List AV → Store → Option Res) (K : Kt) : ex (Env.rebase (one_E) 1) [2] (sqA (sqR 4 (bodyOf Try.f3))) [] [0, 3] (one_F4 ls) (one_T4 ls) (jK [] J K) = (cond (okM2 ls (Int.toNat (↑(List.length ls) : Int)) (Int.toNat (↑(List.length ls) : Int)) && D.eqbL (cnt (hcF ls 128) (List.length ls)) (cnt (lcF ls 0) (List.length ls))) (J ([]) ([{ sh := Sh.arr Sh.one 0, dyn := true, frz := false, v := .dat (.arr Sh.one (cnt (lcF ls (List.length ls)) (List.length ls))) }])) (none)) := by kernel_rfl
theorem one_q4 (ls : List D) (J : List AV → Store → Option Res) (K : Kt) : ex (Env.rebase (one_E) 1) [2] (sqA (sqR 4 (bodyOf Try.f3))) [] [0, 3] (one_F4 ls) (one_T4 ls) (jK [] J K) = (cond (okM2 ls (Int.toNat (↑(List.length ls) : Int)) (Int.toNat (↑(List.length ls) : Int)) && D.eqbL (cnt (hcF ls 128) (List.length ls)) (cnt (lcF ls 0) (List.length ls))) (J ([]) ([{ sh := Sh.arr Sh.one 0, dyn := true, frz := false, v := .dat (.arr Sh.one (cnt (lcF ls (List.length ls)) (List.length ls))) }])) none) := (one_r4 ls J K).trans (by
  generalize (okM2 ls (Int.toNat (↑(List.length ls) : Int)) (Int.toNat (↑(List.length ls) : Int)) && D.eqbL (cnt (hcF ls 128) (List.length ls)) (cnt (lcF ls 0) (List.length ls))) = z0
  cases z0 with
  | true =>
   rfl
  | false =>
   rfl
  )
def one_F5 (ls : List D) : Frame' := mkF 123 [(0, .dat (.slc (Sh.agg [Sh.one, Sh.one, Sh.one, Sh.one, Sh.agg [Sh.one, Sh.one]]) ls)), (3, AV.sref Sh.one 0 (Int.toNat (↑(List.length ls) : Int)) [] 0 (Int.toNat (↑(List.length ls) : Int))), (21, .dat (.slc (Sh.agg [Sh.one, Sh.one, Sh.one, Sh.one, Sh.agg [Sh.one, Sh.one]]) ls)), (22, .dat (.int .i64 (↑(List.length ls) : Int))), (23, AV.sref Sh.one 0 (Int.toNat (↑(List.length ls) : Int)) [] 0 (Int.toNat (↑(List.length ls) : Int)))]
def one_T5 (ls : List D) : Store := [{ sh := Sh.arr Sh.one 0, dyn := true, frz := false, v := .dat (.arr Sh.one (cnt (lcF ls (List.length ls)) (List.length ls))) }]
def one_p4 (ls : List D) : Bool := okM2 ls (Int.toNat (↑(List.length ls) : Int)) (Int.toNat (↑(List.length ls) : Int)) && D.eqbL (cnt (hcF ls 128) (List.length ls)) (cnt (lcF ls 0) (List.length ls))
theorem one_s4 (ls : List D) (K : Kt) : ex (Env.rebase (one_E) 0) [2] (sqR 4 (bodyOf Try.f3)) [] [2] (one_F4 ls) (one_T4 ls) K = (cond (one_p4 ls) (ex (Env.rebase (one_E) 0) [2] (sqR 5 (bodyOf Try.f3)) [] [2] (one_F5 ls) (one_T5 ls) K) none) := (seg_join (c := (sqR 4 (bodyOf Try.f3))) (a := sqA (sqR 4 (bodyOf Try.f3))) (b := (sqR 5 (bodyOf Try.f3))) (ds := [60, 61, 62, 63, 66, 67, 68, 69, 70, 71, 72, 73, 74, 75, 76, 77, 78, 8, 79, 80, 81, 82, 85, 86, 87, 88, 89, 90, 91, 92, 93, 94, 95, 96, 83, 84, 9, 64, 65, 7]) (by kernel_rfl) (by kernel_rfl) (by kernel_rfl) (by kernel_rfl) (by kernel_rfl) (by kernel_rfl) (one_q4 ls) K).trans (condC (ex_same (by kernel_rfl) (by kernel_rfl)))
theorem one_r5 (ls : List D) (J : List AV → Store → Option Res) (K : Kt) : ex (Env.rebase (one_E) 1) [2] (sqA (sqR 5 (bodyOf Try.f3))) [] [] (one_F5 ls) (one_T5 ls) (jK [] J K) = (cond (okM2 ls (Int.toNat (↑(List.length ls) : Int)) (Int.toNat (↑(List.length ls) : Int)) && okC (List.length ls) (cnt (lcF ls (List.length ls)) (List.length ls))) ((cond (List.any (List.range (List.length ls)) fun i => wantP (nthD ls i) (D.getI (nthD (cnt (lcF ls (List.length ls)) (List.length ls)) i))) (K (Exit.ret) (mkF 123 [(2, .dat (.bool false))]) ([{ sh := Sh.arr Sh.one 0, dyn := true, frz := false, v := .dat (.arr Sh.one (cnt (lcF ls (List.length ls)) (List.length ls))) }])) (J ([]) ([{ sh := Sh.arr Sh.one 0, dyn := true, frz := false, v := .dat (.arr Sh.one (cnt (lcF ls (List.length ls)) (List.length ls))) }])))) (none)) := by kernel_rfl
theorem one_q5 (ls : List D) (J : List AV → Store → Option Res) (K : Kt) : ex (Env.rebase (one_E) 1) [2] (sqA (sqR 5 (bodyOf Try.f3))) [] [] (one_F5 ls) (one_T5 ls) (jK [] J K) = (cond (okM2 ls (Int.toNat (↑(List.length ls) : Int)) (Int.toNat (↑(List.length ls) : Int)) && okC (List.length ls) (cnt (lcF ls (List.length ls)) (List.length ls))) ((cond (List.any (List.range (List.length ls)) fun i => wantP (nthD ls i) (D.getI (nthD (cnt (lcF ls (List.length ls)) (List.length ls)) i))) (K (Exit.ret) (mkF 123 [(2, .dat (.bool false))]) ([{ sh := Sh.arr Sh.one 0, dyn := true, frz := false, v := .dat (.arr Sh.one (cnt (lcF ls (List.length ls)) (List.length ls))) }])) (J ([]) ([{ sh := Sh.arr Sh.one 0, dyn := true, frz := false, v := .dat (.arr Sh.one (cnt (lcF ls (List.length ls)) (List.length ls))) }])))) none) := (one_r5 ls J K).trans (by
  generalize (okM2 ls (Int.toNat (↑(List.length ls) : Int)) (Int.toNat (↑(List.length ls) : Int)) && okC (List.length ls) (cnt (lcF ls (List.length ls)) (List.length ls))) = z0
  generalize (List.any (List.range (List.length ls)) fun i => wantP (nthD ls i) (D.getI (nthD (cnt (lcF ls (List.length ls)) (List.length ls)) i))) = z1
  cases z0 with
  | true =>
   cases z1 with
   | true =>
    rfl
   | false =>
    rfl
  | false =>
   rfl
  )
def one_F6 (ls : List D) : Frame' := mkF 123 [(0, .dat (.slc (Sh.agg [Sh.one, Sh.one, Sh.one, Sh.one, Sh.agg [Sh.one, Sh.one]]) ls)), (3, AV.sref Sh.one 0 (Int.toNat (↑(List.length ls) : Int)) [] 0 (Int.toNat (↑(List.length ls) : Int))), (21, .dat (.slc (Sh.agg [Sh.one, Sh.one, Sh.one, Sh.one, Sh.agg [Sh.one, Sh.one]]) ls)), (22, .dat (.int .i64 (↑(List.length ls) : Int))), (23, AV.sref Sh.one 0 (Int.toNat (↑(List.length ls) : Int)) [] 0 (Int.toNat (↑(List.length ls) : Int)))]
def one_T6 (ls : List D) : Store := [{ sh := Sh.arr Sh.one 0, dyn := true, frz := false, v := .dat (.arr Sh.one (cnt (lcF ls (List.length ls)) (List.length ls))) }]
def one_p5 (ls : List D) : Bool := okM2 ls (Int.toNat (↑(List.length ls) : Int)) (Int.toNat (↑(List.length ls) : Int)) && okC (List.length ls) (cnt (lcF ls (List.length ls)) (List.length ls))
def one_c5_0 (ls : List D) : Bool := List.any (List.range (List.length ls)) fun i => wantP (nthD ls i) (D.getI (nthD (cnt (lcF ls (List.length ls)) (List.length ls)) i))
theorem one_s5 (ls : List D) (K : Kt) : ex (Env.rebase (one_E) 0) [2] (sqR 5 (bodyOf Try.f3)) [] [2] (one_F5 ls) (one_T5 ls) K = (cond (one_p5 ls) ((cond (one_c5_0 ls) (K (Exit.ret) (mkF 123 [(2, .dat (.bool false))]) ([{ sh := Sh.arr Sh.one 0, dyn := true, frz := false, v := .dat (.arr Sh.one (cnt (lcF ls (List.length ls)) (List.length ls))) }])) (ex (Env.rebase (one_E) 0) [2] (sqR 6 (bodyOf Try.f3)) [] [2] (one_F6 ls) (one_T6 ls) K))) none) := (seg_join (c := (sqR 5 (bodyOf Try.f3))) (a := sqA (sqR 5 (bodyOf Try.f3))) (b := (sqR 6 (bodyOf Try.f3))) (ds := [97, 98, 99, 100, 103, 104, 105, 106, 107, 108, 109, 110, 111, 112, 113, 114, 115, 11, 116, 117, 118, 119, 120, 121, 2, 101, 102, 10]) (by kernel_rfl) (by kernel_rfl) (by kernel_rfl) (by kernel_rfl) (by kernel_rfl) (by kernel_rfl) (one_q5 ls) K).trans (condC (condC3 rfl (ex_same (by kernel_rfl) (by kernel_rfl))))
theorem one_e5_0 (ls : List D) : (finK (one_E) true Try.f3 (callFin [] [])) (Exit.ret) (mkF 123 [(2, .dat (.bool false))]) ([{ sh := Sh.arr Sh.one 0, dyn := true, frz := false, v := .dat (.arr Sh.one (cnt (lcF ls (List.length ls)) (List.length ls))) }]) = some (([.dat (.bool false)], []) : Res) := by kernel_rfl
theorem one_q6 (ls : List D) (K : Kt) : ex (Env.rebase (one_E) 0) [2] (sqA (sqR 6 (bodyOf Try.f3))) [] [2] (one_F6 ls) (one_T6 ls) K = K .normal (mkF 123 [(0, .dat (.slc (Sh.agg [Sh.one, Sh.one, Sh.one, Sh.one, Sh.agg [Sh.one, Sh.one]]) ls)), (2, .dat (.bool true)), (3, AV.sref Sh.one 0 (Int.toNat (↑(List.length ls) : Int)) [] 0 (Int.toNat (↑(List.length ls) : Int))), (21, .dat (.slc (Sh.agg [Sh.one, Sh.one, Sh.one, Sh.one, Sh.agg [Sh.one, Sh.one]]) ls)), (22, .dat (.int .i64 (↑(List.length ls) : Int))), (23, AV.sref Sh.one 0 (Int.toNat (↑(List.length ls) : Int)) [] 0 (Int.toNat (↑(List.length ls) : Int))), (122, .dat (.bool true))]) ([{ sh := Sh.arr Sh.one 0, dyn := true, frz := false, v := .dat (.arr Sh.one (cnt (lcF ls (List.length ls)) (List.length ls))) }]) := by kernel_rfl
def one_F7 (ls : List D) : Frame' := mkF 123 [(0, .dat (.slc (Sh.agg [Sh.one, Sh.one, Sh.one, Sh.one, Sh.agg [Sh.one, Sh.one]]) ls)), (2, .dat (.bool true)), (3, AV.sref Sh.one 0 (Int.toNat (↑(List.length ls) : Int)) [] 0 (Int.toNat (↑(List.length ls) : Int))), (21, .dat (.slc (Sh.agg [Sh.one, Sh.one, Sh.one, Sh.one, Sh.agg [Sh.one, Sh.one]]) ls)), (22, .dat (.int .i64 (↑(List.length ls) : Int))), (23, AV.sref Sh.one 0 (Int.toNat (↑(List.length ls) : Int)) [] 0 (Int.toNat (↑(List.length ls) : Int))), (122, .dat (.bool true))]
def one_T7 (ls : List D) : Store := [{ sh := Sh.arr Sh.one 0, dyn := true, frz := false, v := .dat (.arr Sh.one (cnt (lcF ls (List.length ls)) (List.length ls))) }]
theorem one_s6 (ls : List D) (K : Kt) : ex (Env.rebase (one_E) 0) [2] (sqR 6 (bodyOf Try.f3)) [] [2] (one_F6 ls) (one_T6 ls) K = ex (Env.rebase (one_E) 0) [2] (sqR 7 (bodyOf Try.f3)) [] [2] (one_F7 ls) (one_T7 ls) K := (seg_str (c := (sqR 6 (bodyOf Try.f3))) (a := sqA (sqR 6 (bodyOf Try.f3))) (b := (sqR 7 (bodyOf Try.f3))) (by kernel_rfl) (by kernel_rfl) (by kernel_rfl) (one_q6 ls) K).trans (seqK_normal (by kernel_rfl) (by kernel_rfl))
theorem one_q7 (ls : List D) (K : Kt) : ex (Env.rebase (one_E) 0) [2] (sqR 7 (bodyOf Try.f3)) [] [2] (one_F7 ls) (one_T7 ls) K = K (Exit.ret) (mkF 123 [(2, .dat (.bool true))]) ([{ sh := Sh.arr Sh.one 0, dyn := true, frz := false, v := .dat (.arr Sh.one (cnt (lcF ls (List.length ls)) (List.length ls))) }]) := by kernel_rfl
theorem one_s7 (ls : List D) (K : Kt) : ex (Env.rebase (one_E) 0) [2] (sqR 7 (bodyOf Try.f3)) [] [2] (one_F7 ls) (one_T7 ls) K = K (Exit.ret) (mkF 123 [(2, .dat (.bool true))]) ([{ sh := Sh.arr Sh.one 0, dyn := true, frz := false, v := .dat (.arr Sh.one (cnt (lcF ls (List.length ls)) (List.length ls))) }]) := (one_q7 ls K).trans rfl
theorem one_e7_0 (ls : List D) : (finK (one_E) true Try.f3 (callFin [] [])) (Exit.ret) (mkF 123 [(2, .dat (.bool true))]) ([{ sh := Sh.arr Sh.one 0, dyn := true, frz := false, v := .dat (.arr Sh.one (cnt (lcF ls (List.length ls)) (List.length ls))) }]) = some (([.dat (.bool true)], []) : Res) := by kernel_rfl
def C_one : FunT := fun args σ => match args, σ with
  | [AV.dat (D.slc (Sh.agg [Sh.one, Sh.one, Sh.one, Sh.one, Sh.agg [Sh.one, Sh.one]]) ls)], [] => .chk (one_p1 ls) (.br (one_c1_0 ls) (.leaf ([AV.dat (D.bool true)], [])) (.chk (one_p2 ls) (.chk (one_p3 ls) (.chk (one_p4 ls) (.chk (one_p5 ls) (.br (one_c5_0 ls) (.leaf ([AV.dat (D.bool false)], [])) (.leaf ([AV.dat (D.bool true)], []))))))))
  | _, _ => .fail
theorem one_case0 (ls : List D) : runF (envOf tab SpO [] LL []) true Try.f3 [.dat (.slc (.agg [.one, .one, .one, .one, .agg [.one, .one]]) ls)] [] = FunT.run C_one [.dat (.slc (.agg [.one, .one, .one, .one, .agg [.one, .one]]) ls)] [] := ((one_start ls).trans ((one_s0 ls _).trans ((one_s1 ls _).trans (condC ((condC (one_e1_0 ls)).trans (condC2 ((one_s2 ls _).trans (condC ((one_s3 ls _).trans (condC ((one_s4 ls _).trans (condC ((one_s5 ls _).trans (condC ((condC (one_e5_0 ls)).trans (condC2 ((one_s6 ls _).trans ((one_s7 ls _).trans (one_e7_0 ls))))))))))))))))))).trans (by kernel_rfl)
theorem cone_ok : FunOk Try.prog 3 (FunT.run C_one) := by
  refine fun_ok (E := one_E) (fz := true) (fn := Try.f3) (envOf_ok progOk SpO_ok) (by kernel_rfl) (by kernel_rfl) LL_ok ?_
  intro args σ r h
  unfold C_one at h
  split at h
  · exact (one_case0 _).trans h
  · simp [T.run_fail] at h

end Go.Proofs.Ytnegedbjcjfndaa
