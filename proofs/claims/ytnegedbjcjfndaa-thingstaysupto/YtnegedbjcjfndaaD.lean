/- Seat 16: the document's items. -/
import Derived.Test.YtnegedbjcjfndaaC
namespace Go.Proofs.Ytnegedbjcjfndaa
open Go.AX
set_option maxRecDepth 100000

abbrev ekI : Ek := .agg [.bool, .str, .int .i64, .int .i64, .agg [.int .i64, .int .i64]]
def rnum_v0 (n : Int) : Bool := decide ((0 : Int) ≤ n) && decide (n < (128 : Int))
def C_rnum : FunT := fun args σ => match args, σ with
  | [AV.dat (D.int IntKind.i64 n)], [] => .leaf ([AV.dat (D.bool (rnum_v0 n))], [])
  | _, _ => .fail
theorem rnum_raw0 (n : Int) : runF (envOf tab [] [] [] []) true Try.f40 [.dat (.int .i64 n)] [] =
  (bif decide (n ≥ (0 : Int)) then some ([AV.dat (D.bool (decide (n < (128 : Int))))], []) else some ([AV.dat (D.bool false)], [])) := by kernel_rfl
theorem rnum_case0 (n : Int) : runF (envOf tab [] [] [] []) true Try.f40 [.dat (.int .i64 n)] [] = FunT.run C_rnum [.dat (.int .i64 n)] [] := (rnum_raw0 n).trans (by
  show _ = some (([AV.dat (D.bool (decide ((0 : Int) ≤ n) && decide (n < (128 : Int))))], []) : Res)
  generalize (decide ((0 : Int) ≤ n)) = z0
  cases z0 with
  | true =>
   rfl
  | false =>
   rfl
  )
theorem crnum_ok : FunOk Try.prog 40 (FunT.run C_rnum) := by
  refine fun_ok (E := envOf tab [] [] [] []) (fz := true) (fn := Try.f40) (envOf_ok progOk (.nil _)) (by kernel_rfl) (by kernel_rfl) (loops_none (by kernel_rfl)) ?_
  intro args σ r h
  unfold C_rnum at h
  split at h
  · exact (rnum_case0 _).trans h
  · simp [T.run_fail] at h

def rref_v0 (a : Int) (b : Int) : Bool := decide ((0 : Int) ≤ a) && (decide (a < (128 : Int)) && (decide ((0 : Int) ≤ b) && decide (b < (128 : Int))))
def C_rref : FunT := fun args σ => match args, σ with
  | [AV.dat (D.agg [D.int IntKind.i64 a, D.int IntKind.i64 b])], [] => .leaf ([AV.dat (D.bool (rref_v0 a b))], [])
  | _, _ => .fail
theorem rref_raw0 (a b : Int) : runF (envOf tab [] [] [] []) true Try.f43 [.dat (.agg [.int .i64 a, .int .i64 b])] [] =
  (bif decide (a ≥ (0 : Int)) then 
   (bif decide (a < (128 : Int)) then 
    (bif decide (b ≥ (0 : Int)) then some ([AV.dat (D.bool (decide (b < (128 : Int))))], []) else some ([AV.dat (D.bool false)], [])) else some ([AV.dat (D.bool false)], [])) else some ([AV.dat (D.bool false)], [])) := by kernel_rfl
theorem rref_case0 (a b : Int) : runF (envOf tab [] [] [] []) true Try.f43 [.dat (.agg [.int .i64 a, .int .i64 b])] [] = FunT.run C_rref [.dat (.agg [.int .i64 a, .int .i64 b])] [] := (rref_raw0 a b).trans (by
  show _ = some (([AV.dat (D.bool (decide ((0 : Int) ≤ a) && (decide (a < (128 : Int)) && (decide ((0 : Int) ≤ b) && decide (b < (128 : Int))))))], []) : Res)
  generalize (decide ((0 : Int) ≤ b)) = z0
  generalize (decide ((0 : Int) ≤ a)) = z1
  generalize (decide (a < (128 : Int))) = z2
  cases z1 with
  | true =>
   cases z2 with
   | true =>
    cases z0 with
    | true =>
     rfl
    | false =>
     rfl
   | false =>
    rfl
  | false =>
   rfl
  )
theorem crref_ok : FunOk Try.prog 43 (FunT.run C_rref) := by
  refine fun_ok (E := envOf tab [] [] [] []) (fz := true) (fn := Try.f43) (envOf_ok progOk (.nil _)) (by kernel_rfl) (by kernel_rfl) (loops_none (by kernel_rfl)) ?_
  intro args σ r h
  unfold C_rref at h
  split at h
  · exact (rref_case0 _ _).trans h
  · simp [T.run_fail] at h

abbrev SpD1 : Specs := (40, C_rnum) :: (43, C_rref) :: SpN
theorem SpD1_ok : SpecsOk Try.prog SpD1 := .cons crnum_ok (.cons crref_ok SpN_ok)
def rr13_fr (ls : List D) : Int → Frame' := fun i => mkF 67 [(0, .dat (.slc (.agg [.one, .one, .one, .one, .agg [.one, .one]]) ls)), (3, .dat (.int .i64 i))]
def rr13_st (_ : List D) : Int → Store := fun _ => []
def rr13_step (ls : List D) : Int → T (Int ⊕ LOut) := fun i => 
  .chk (!decide (i < (↑(List.length ls) : Int)) || decide ((0 : Int) ≤ i) && (decide (Int.toNat i < List.length ls) && (okE (Ek.agg [Ek.bool, Ek.str, Ek.int IntKind.i64, Ek.int IntKind.i64, Ek.agg [Ek.int IntKind.i64, Ek.int IntKind.i64]]) (nthD ls (Int.toNat i)) && (!D.getB (nthD (D.getL (nthD ls (Int.toNat i))) 0) || rright_pre (D.getS (nthD (D.getL (nthD ls (Int.toNat i))) 1)))))) (
   .br (!decide (i < (↑(List.length ls) : Int))) (.leaf (.inr ((some 0), mkF 67 [], []))) (
    .br (decide (i < (↑(List.length ls) : Int)) && bif D.getB (nthD (D.getL (nthD ls (Int.toNat i))) 0) then bif D.getI (nthD (D.getL (nthD ls (Int.toNat i))) 2) == (1 : Int) then bif rnum_v0 (D.getI (nthD (D.getL (nthD ls (Int.toNat i))) 3)) then bif D.getI (nthD (D.getL (nthD ls (Int.toNat i))) 2) == (2 : Int) then bif D.getI (nthD (D.getL (nthD ls (Int.toNat i))) 3) == (0 : Int) then !rright_v0 (D.getS (nthD (D.getL (nthD ls (Int.toNat i))) 1)) || !(D.getI (nthD (D.getL (nthD (D.getL (nthD ls (Int.toNat i))) 4)) 0) == (0 : Int) && (D.getI (nthD (D.getL (nthD (D.getL (nthD ls (Int.toNat i))) 4)) 1) == (0 : Int) && true)) && !rref_v0 (D.getI (nthD (D.getL (nthD (D.getL (nthD ls (Int.toNat i))) 4)) 0)) (D.getI (nthD (D.getL (nthD (D.getL (nthD ls (Int.toNat i))) 4)) 1)) else !rright_v0 (D.getS (nthD (D.getL (nthD ls (Int.toNat i))) 1)) || !(D.getI (nthD (D.getL (nthD (D.getL (nthD ls (Int.toNat i))) 4)) 0) == (0 : Int) && (D.getI (nthD (D.getL (nthD (D.getL (nthD ls (Int.toNat i))) 4)) 1) == (0 : Int) && true)) else !rright_v0 (D.getS (nthD (D.getL (nthD ls (Int.toNat i))) 1)) || !(D.getI (nthD (D.getL (nthD (D.getL (nthD ls (Int.toNat i))) 4)) 0) == (0 : Int) && (D.getI (nthD (D.getL (nthD (D.getL (nthD ls (Int.toNat i))) 4)) 1) == (0 : Int) && true)) else !D.getI (nthD (D.getL (nthD ls (Int.toNat i))) 2) == (2 : Int) || (!D.getI (nthD (D.getL (nthD ls (Int.toNat i))) 3) == (0 : Int) || (!rright_v0 (D.getS (nthD (D.getL (nthD ls (Int.toNat i))) 1)) || !rref_v0 (D.getI (nthD (D.getL (nthD (D.getL (nthD ls (Int.toNat i))) 4)) 0)) (D.getI (nthD (D.getL (nthD (D.getL (nthD ls (Int.toNat i))) 4)) 1)))) else bif D.getI (nthD (D.getL (nthD ls (Int.toNat i))) 2) == (3 : Int) then bif rnum_v0 (D.getI (nthD (D.getL (nthD ls (Int.toNat i))) 3)) then bif D.getI (nthD (D.getL (nthD ls (Int.toNat i))) 2) == (2 : Int) then bif D.getI (nthD (D.getL (nthD ls (Int.toNat i))) 3) == (0 : Int) then !rright_v0 (D.getS (nthD (D.getL (nthD ls (Int.toNat i))) 1)) || !(D.getI (nthD (D.getL (nthD (D.getL (nthD ls (Int.toNat i))) 4)) 0) == (0 : Int) && (D.getI (nthD (D.getL (nthD (D.getL (nthD ls (Int.toNat i))) 4)) 1) == (0 : Int) && true)) && !rref_v0 (D.getI (nthD (D.getL (nthD (D.getL (nthD ls (Int.toNat i))) 4)) 0)) (D.getI (nthD (D.getL (nthD (D.getL (nthD ls (Int.toNat i))) 4)) 1)) else !rright_v0 (D.getS (nthD (D.getL (nthD ls (Int.toNat i))) 1)) || !(D.getI (nthD (D.getL (nthD (D.getL (nthD ls (Int.toNat i))) 4)) 0) == (0 : Int) && (D.getI (nthD (D.getL (nthD (D.getL (nthD ls (Int.toNat i))) 4)) 1) == (0 : Int) && true)) else !rright_v0 (D.getS (nthD (D.getL (nthD ls (Int.toNat i))) 1)) || !(D.getI (nthD (D.getL (nthD (D.getL (nthD ls (Int.toNat i))) 4)) 0) == (0 : Int) && (D.getI (nthD (D.getL (nthD (D.getL (nthD ls (Int.toNat i))) 4)) 1) == (0 : Int) && true)) else !D.getI (nthD (D.getL (nthD ls (Int.toNat i))) 2) == (2 : Int) || (!D.getI (nthD (D.getL (nthD ls (Int.toNat i))) 3) == (0 : Int) || (!rright_v0 (D.getS (nthD (D.getL (nthD ls (Int.toNat i))) 1)) || !rref_v0 (D.getI (nthD (D.getL (nthD (D.getL (nthD ls (Int.toNat i))) 4)) 0)) (D.getI (nthD (D.getL (nthD (D.getL (nthD ls (Int.toNat i))) 4)) 1)))) else !D.getI (nthD (D.getL (nthD ls (Int.toNat i))) 2) == (2 : Int) || (!D.getI (nthD (D.getL (nthD ls (Int.toNat i))) 3) == (0 : Int) || (!rright_v0 (D.getS (nthD (D.getL (nthD ls (Int.toNat i))) 1)) || !rref_v0 (D.getI (nthD (D.getL (nthD (D.getL (nthD ls (Int.toNat i))) 4)) 0)) (D.getI (nthD (D.getL (nthD (D.getL (nthD ls (Int.toNat i))) 4)) 1)))) else !(D.getB (nthD (D.getL (nthD ls (Int.toNat i))) 0) == false && (decide (Array.toList (ByteArray.data (D.getS (nthD (D.getL (nthD ls (Int.toNat i))) 1))) = []) && (D.getI (nthD (D.getL (nthD ls (Int.toNat i))) 2) == (0 : Int) && (D.getI (nthD (D.getL (nthD ls (Int.toNat i))) 3) == (0 : Int) && (D.getI (nthD (D.getL (nthD (D.getL (nthD ls (Int.toNat i))) 4)) 0) == (0 : Int) && (D.getI (nthD (D.getL (nthD (D.getL (nthD ls (Int.toNat i))) 4)) 1) == (0 : Int) && true) && true)))))) (.leaf (.inr (none, mkF 67 [(2, AV.dat (D.bool false))], [{ sh := Sh.agg [Sh.one, Sh.one, Sh.one, Sh.one, Sh.agg [Sh.one, Sh.one]], dyn := false, frz := false, v := AV.dat (D.agg [D.bool (D.getB (nthD (D.getL (nthD ls (Int.toNat i))) 0)), D.str (D.getS (nthD (D.getL (nthD ls (Int.toNat i))) 1)), D.int IntKind.i64 (D.getI (nthD (D.getL (nthD ls (Int.toNat i))) 2)), D.int IntKind.i64 (D.getI (nthD (D.getL (nthD ls (Int.toNat i))) 3)), D.agg [D.int IntKind.i64 (D.getI (nthD (D.getL (nthD (D.getL (nthD ls (Int.toNat i))) 4)) 0)), D.int IntKind.i64 (D.getI (nthD (D.getL (nthD (D.getL (nthD ls (Int.toNat i))) 4)) 1))]]) }]))) (.leaf (.inl (IntKind.wrap IntKind.i64 (i + (1 : Int)))))))
theorem rr13_round (lp : Loops) (ls : List D) (i : Int) (K : Kt) : oneRound (envOf tab SpD1 [] lp []) Try.f13 0 (0) (mkF 67 [(0, .dat (.slc (.agg [.one, .one, .one, .one, .agg [.one, .one]]) ls)), (3, .dat (.int .i64 i))]) ([]) K =
  (bif decide (i < (↑(List.length ls) : Int)) then 
   (bif decide ((0 : Int) ≤ i) then 
    (bif decide (Int.toNat i < List.length ls) then 
     (bif okE (Ek.agg [Ek.bool, Ek.str, Ek.int IntKind.i64, Ek.int IntKind.i64, Ek.agg [Ek.int IntKind.i64, Ek.int IntKind.i64]]) (nthD ls (Int.toNat i)) then 
      (bif !D.getB (nthD (D.getL (nthD ls (Int.toNat i))) 0) then 
       (bif true != (D.getB (nthD (D.getL (nthD ls (Int.toNat i))) 0) == false && (decide (Array.toList (ByteArray.data (D.getS (nthD (D.getL (nthD ls (Int.toNat i))) 1))) = []) && (D.getI (nthD (D.getL (nthD ls (Int.toNat i))) 2) == (0 : Int) && (D.getI (nthD (D.getL (nthD ls (Int.toNat i))) 3) == (0 : Int) && (D.getI (nthD (D.getL (nthD (D.getL (nthD ls (Int.toNat i))) 4)) 0) == (0 : Int) && (D.getI (nthD (D.getL (nthD (D.getL (nthD ls (Int.toNat i))) 4)) 1) == (0 : Int) && true) && true))))) then K (Exit.ret) (mkF 67 [(2, AV.dat (D.bool false))]) ([{ sh := Sh.agg [Sh.one, Sh.one, Sh.one, Sh.one, Sh.agg [Sh.one, Sh.one]], dyn := false, frz := false, v := AV.dat (D.agg [D.bool (D.getB (nthD (D.getL (nthD ls (Int.toNat i))) 0)), D.str (D.getS (nthD (D.getL (nthD ls (Int.toNat i))) 1)), D.int IntKind.i64 (D.getI (nthD (D.getL (nthD ls (Int.toNat i))) 2)), D.int IntKind.i64 (D.getI (nthD (D.getL (nthD ls (Int.toNat i))) 3)), D.agg [D.int IntKind.i64 (D.getI (nthD (D.getL (nthD (D.getL (nthD ls (Int.toNat i))) 4)) 0)), D.int IntKind.i64 (D.getI (nthD (D.getL (nthD (D.getL (nthD ls (Int.toNat i))) 4)) 1))]]) }]) else K (Exit.normal) (mkF 67 [(0, AV.dat (D.slc (Sh.agg [Sh.one, Sh.one, Sh.one, Sh.one, Sh.agg [Sh.one, Sh.one]]) ls)), (3, AV.dat (D.int IntKind.i64 (IntKind.wrap IntKind.i64 (i + (1 : Int))))), (11, AV.dat (D.int IntKind.i64 i)), (12, AV.dat (D.int IntKind.i64 (IntKind.wrap IntKind.i64 (i + (1 : Int)))))]) ([{ sh := Sh.agg [Sh.one, Sh.one, Sh.one, Sh.one, Sh.agg [Sh.one, Sh.one]], dyn := false, frz := false, v := AV.dat (D.agg [D.bool (D.getB (nthD (D.getL (nthD ls (Int.toNat i))) 0)), D.str (D.getS (nthD (D.getL (nthD ls (Int.toNat i))) 1)), D.int IntKind.i64 (D.getI (nthD (D.getL (nthD ls (Int.toNat i))) 2)), D.int IntKind.i64 (D.getI (nthD (D.getL (nthD ls (Int.toNat i))) 3)), D.agg [D.int IntKind.i64 (D.getI (nthD (D.getL (nthD (D.getL (nthD ls (Int.toNat i))) 4)) 0)), D.int IntKind.i64 (D.getI (nthD (D.getL (nthD (D.getL (nthD ls (Int.toNat i))) 4)) 1))]]) }])) else 
       (bif D.getI (nthD (D.getL (nthD ls (Int.toNat i))) 2) == (1 : Int) then 
        (bif rnum_v0 (D.getI (nthD (D.getL (nthD ls (Int.toNat i))) 3)) then 
         (bif D.getI (nthD (D.getL (nthD ls (Int.toNat i))) 2) == (2 : Int) then 
          (bif D.getI (nthD (D.getL (nthD ls (Int.toNat i))) 3) == (0 : Int) then 
           (bif rright_pre (D.getS (nthD (D.getL (nthD ls (Int.toNat i))) 1)) then 
            (bif !rright_v0 (D.getS (nthD (D.getL (nthD ls (Int.toNat i))) 1)) then K (Exit.ret) (mkF 67 [(2, AV.dat (D.bool false))]) ([{ sh := Sh.agg [Sh.one, Sh.one, Sh.one, Sh.one, Sh.agg [Sh.one, Sh.one]], dyn := false, frz := false, v := AV.dat (D.agg [D.bool (D.getB (nthD (D.getL (nthD ls (Int.toNat i))) 0)), D.str (D.getS (nthD (D.getL (nthD ls (Int.toNat i))) 1)), D.int IntKind.i64 (D.getI (nthD (D.getL (nthD ls (Int.toNat i))) 2)), D.int IntKind.i64 (D.getI (nthD (D.getL (nthD ls (Int.toNat i))) 3)), D.agg [D.int IntKind.i64 (D.getI (nthD (D.getL (nthD (D.getL (nthD ls (Int.toNat i))) 4)) 0)), D.int IntKind.i64 (D.getI (nthD (D.getL (nthD (D.getL (nthD ls (Int.toNat i))) 4)) 1))]]) }]) else 
             (bif !false != (D.getI (nthD (D.getL (nthD (D.getL (nthD ls (Int.toNat i))) 4)) 0) == (0 : Int) && (D.getI (nthD (D.getL (nthD (D.getL (nthD ls (Int.toNat i))) 4)) 1) == (0 : Int) && true)) then 
              (bif !rref_v0 (D.getI (nthD (D.getL (nthD (D.getL (nthD ls (Int.toNat i))) 4)) 0)) (D.getI (nthD (D.getL (nthD (D.getL (nthD ls (Int.toNat i))) 4)) 1)) then K (Exit.ret) (mkF 67 [(2, AV.dat (D.bool false))]) ([{ sh := Sh.agg [Sh.one, Sh.one, Sh.one, Sh.one, Sh.agg [Sh.one, Sh.one]], dyn := false, frz := false, v := AV.dat (D.agg [D.bool (D.getB (nthD (D.getL (nthD ls (Int.toNat i))) 0)), D.str (D.getS (nthD (D.getL (nthD ls (Int.toNat i))) 1)), D.int IntKind.i64 (D.getI (nthD (D.getL (nthD ls (Int.toNat i))) 2)), D.int IntKind.i64 (D.getI (nthD (D.getL (nthD ls (Int.toNat i))) 3)), D.agg [D.int IntKind.i64 (D.getI (nthD (D.getL (nthD (D.getL (nthD ls (Int.toNat i))) 4)) 0)), D.int IntKind.i64 (D.getI (nthD (D.getL (nthD (D.getL (nthD ls (Int.toNat i))) 4)) 1))]]) }]) else K (Exit.normal) (mkF 67 [(0, AV.dat (D.slc (Sh.agg [Sh.one, Sh.one, Sh.one, Sh.one, Sh.agg [Sh.one, Sh.one]]) ls)), (3, AV.dat (D.int IntKind.i64 (IntKind.wrap IntKind.i64 (i + (1 : Int))))), (11, AV.dat (D.int IntKind.i64 i)), (12, AV.dat (D.int IntKind.i64 (IntKind.wrap IntKind.i64 (i + (1 : Int)))))]) ([{ sh := Sh.agg [Sh.one, Sh.one, Sh.one, Sh.one, Sh.agg [Sh.one, Sh.one]], dyn := false, frz := false, v := AV.dat (D.agg [D.bool (D.getB (nthD (D.getL (nthD ls (Int.toNat i))) 0)), D.str (D.getS (nthD (D.getL (nthD ls (Int.toNat i))) 1)), D.int IntKind.i64 (D.getI (nthD (D.getL (nthD ls (Int.toNat i))) 2)), D.int IntKind.i64 (D.getI (nthD (D.getL (nthD ls (Int.toNat i))) 3)), D.agg [D.int IntKind.i64 (D.getI (nthD (D.getL (nthD (D.getL (nthD ls (Int.toNat i))) 4)) 0)), D.int IntKind.i64 (D.getI (nthD (D.getL (nthD (D.getL (nthD ls (Int.toNat i))) 4)) 1))]]) }])) else K (Exit.normal) (mkF 67 [(0, AV.dat (D.slc (Sh.agg [Sh.one, Sh.one, Sh.one, Sh.one, Sh.agg [Sh.one, Sh.one]]) ls)), (3, AV.dat (D.int IntKind.i64 (IntKind.wrap IntKind.i64 (i + (1 : Int))))), (11, AV.dat (D.int IntKind.i64 i)), (12, AV.dat (D.int IntKind.i64 (IntKind.wrap IntKind.i64 (i + (1 : Int)))))]) ([{ sh := Sh.agg [Sh.one, Sh.one, Sh.one, Sh.one, Sh.agg [Sh.one, Sh.one]], dyn := false, frz := false, v := AV.dat (D.agg [D.bool (D.getB (nthD (D.getL (nthD ls (Int.toNat i))) 0)), D.str (D.getS (nthD (D.getL (nthD ls (Int.toNat i))) 1)), D.int IntKind.i64 (D.getI (nthD (D.getL (nthD ls (Int.toNat i))) 2)), D.int IntKind.i64 (D.getI (nthD (D.getL (nthD ls (Int.toNat i))) 3)), D.agg [D.int IntKind.i64 (D.getI (nthD (D.getL (nthD (D.getL (nthD ls (Int.toNat i))) 4)) 0)), D.int IntKind.i64 (D.getI (nthD (D.getL (nthD (D.getL (nthD ls (Int.toNat i))) 4)) 1))]]) }]))) else none) else 
           (bif rright_pre (D.getS (nthD (D.getL (nthD ls (Int.toNat i))) 1)) then 
            (bif !rright_v0 (D.getS (nthD (D.getL (nthD ls (Int.toNat i))) 1)) then K (Exit.ret) (mkF 67 [(2, AV.dat (D.bool false))]) ([{ sh := Sh.agg [Sh.one, Sh.one, Sh.one, Sh.one, Sh.agg [Sh.one, Sh.one]], dyn := false, frz := false, v := AV.dat (D.agg [D.bool (D.getB (nthD (D.getL (nthD ls (Int.toNat i))) 0)), D.str (D.getS (nthD (D.getL (nthD ls (Int.toNat i))) 1)), D.int IntKind.i64 (D.getI (nthD (D.getL (nthD ls (Int.toNat i))) 2)), D.int IntKind.i64 (D.getI (nthD (D.getL (nthD ls (Int.toNat i))) 3)), D.agg [D.int IntKind.i64 (D.getI (nthD (D.getL (nthD (D.getL (nthD ls (Int.toNat i))) 4)) 0)), D.int IntKind.i64 (D.getI (nthD (D.getL (nthD (D.getL (nthD ls (Int.toNat i))) 4)) 1))]]) }]) else 
             (bif !false != (D.getI (nthD (D.getL (nthD (D.getL (nthD ls (Int.toNat i))) 4)) 0) == (0 : Int) && (D.getI (nthD (D.getL (nthD (D.getL (nthD ls (Int.toNat i))) 4)) 1) == (0 : Int) && true)) then K (Exit.ret) (mkF 67 [(2, AV.dat (D.bool false))]) ([{ sh := Sh.agg [Sh.one, Sh.one, Sh.one, Sh.one, Sh.agg [Sh.one, Sh.one]], dyn := false, frz := false, v := AV.dat (D.agg [D.bool (D.getB (nthD (D.getL (nthD ls (Int.toNat i))) 0)), D.str (D.getS (nthD (D.getL (nthD ls (Int.toNat i))) 1)), D.int IntKind.i64 (D.getI (nthD (D.getL (nthD ls (Int.toNat i))) 2)), D.int IntKind.i64 (D.getI (nthD (D.getL (nthD ls (Int.toNat i))) 3)), D.agg [D.int IntKind.i64 (D.getI (nthD (D.getL (nthD (D.getL (nthD ls (Int.toNat i))) 4)) 0)), D.int IntKind.i64 (D.getI (nthD (D.getL (nthD (D.getL (nthD ls (Int.toNat i))) 4)) 1))]]) }]) else K (Exit.normal) (mkF 67 [(0, AV.dat (D.slc (Sh.agg [Sh.one, Sh.one, Sh.one, Sh.one, Sh.agg [Sh.one, Sh.one]]) ls)), (3, AV.dat (D.int IntKind.i64 (IntKind.wrap IntKind.i64 (i + (1 : Int))))), (11, AV.dat (D.int IntKind.i64 i)), (12, AV.dat (D.int IntKind.i64 (IntKind.wrap IntKind.i64 (i + (1 : Int)))))]) ([{ sh := Sh.agg [Sh.one, Sh.one, Sh.one, Sh.one, Sh.agg [Sh.one, Sh.one]], dyn := false, frz := false, v := AV.dat (D.agg [D.bool (D.getB (nthD (D.getL (nthD ls (Int.toNat i))) 0)), D.str (D.getS (nthD (D.getL (nthD ls (Int.toNat i))) 1)), D.int IntKind.i64 (D.getI (nthD (D.getL (nthD ls (Int.toNat i))) 2)), D.int IntKind.i64 (D.getI (nthD (D.getL (nthD ls (Int.toNat i))) 3)), D.agg [D.int IntKind.i64 (D.getI (nthD (D.getL (nthD (D.getL (nthD ls (Int.toNat i))) 4)) 0)), D.int IntKind.i64 (D.getI (nthD (D.getL (nthD (D.getL (nthD ls (Int.toNat i))) 4)) 1))]]) }]))) else none)) else 
          (bif rright_pre (D.getS (nthD (D.getL (nthD ls (Int.toNat i))) 1)) then 
           (bif !rright_v0 (D.getS (nthD (D.getL (nthD ls (Int.toNat i))) 1)) then K (Exit.ret) (mkF 67 [(2, AV.dat (D.bool false))]) ([{ sh := Sh.agg [Sh.one, Sh.one, Sh.one, Sh.one, Sh.agg [Sh.one, Sh.one]], dyn := false, frz := false, v := AV.dat (D.agg [D.bool (D.getB (nthD (D.getL (nthD ls (Int.toNat i))) 0)), D.str (D.getS (nthD (D.getL (nthD ls (Int.toNat i))) 1)), D.int IntKind.i64 (D.getI (nthD (D.getL (nthD ls (Int.toNat i))) 2)), D.int IntKind.i64 (D.getI (nthD (D.getL (nthD ls (Int.toNat i))) 3)), D.agg [D.int IntKind.i64 (D.getI (nthD (D.getL (nthD (D.getL (nthD ls (Int.toNat i))) 4)) 0)), D.int IntKind.i64 (D.getI (nthD (D.getL (nthD (D.getL (nthD ls (Int.toNat i))) 4)) 1))]]) }]) else 
            (bif !false != (D.getI (nthD (D.getL (nthD (D.getL (nthD ls (Int.toNat i))) 4)) 0) == (0 : Int) && (D.getI (nthD (D.getL (nthD (D.getL (nthD ls (Int.toNat i))) 4)) 1) == (0 : Int) && true)) then K (Exit.ret) (mkF 67 [(2, AV.dat (D.bool false))]) ([{ sh := Sh.agg [Sh.one, Sh.one, Sh.one, Sh.one, Sh.agg [Sh.one, Sh.one]], dyn := false, frz := false, v := AV.dat (D.agg [D.bool (D.getB (nthD (D.getL (nthD ls (Int.toNat i))) 0)), D.str (D.getS (nthD (D.getL (nthD ls (Int.toNat i))) 1)), D.int IntKind.i64 (D.getI (nthD (D.getL (nthD ls (Int.toNat i))) 2)), D.int IntKind.i64 (D.getI (nthD (D.getL (nthD ls (Int.toNat i))) 3)), D.agg [D.int IntKind.i64 (D.getI (nthD (D.getL (nthD (D.getL (nthD ls (Int.toNat i))) 4)) 0)), D.int IntKind.i64 (D.getI (nthD (D.getL (nthD (D.getL (nthD ls (Int.toNat i))) 4)) 1))]]) }]) else K (Exit.normal) (mkF 67 [(0, AV.dat (D.slc (Sh.agg [Sh.one, Sh.one, Sh.one, Sh.one, Sh.agg [Sh.one, Sh.one]]) ls)), (3, AV.dat (D.int IntKind.i64 (IntKind.wrap IntKind.i64 (i + (1 : Int))))), (11, AV.dat (D.int IntKind.i64 i)), (12, AV.dat (D.int IntKind.i64 (IntKind.wrap IntKind.i64 (i + (1 : Int)))))]) ([{ sh := Sh.agg [Sh.one, Sh.one, Sh.one, Sh.one, Sh.agg [Sh.one, Sh.one]], dyn := false, frz := false, v := AV.dat (D.agg [D.bool (D.getB (nthD (D.getL (nthD ls (Int.toNat i))) 0)), D.str (D.getS (nthD (D.getL (nthD ls (Int.toNat i))) 1)), D.int IntKind.i64 (D.getI (nthD (D.getL (nthD ls (Int.toNat i))) 2)), D.int IntKind.i64 (D.getI (nthD (D.getL (nthD ls (Int.toNat i))) 3)), D.agg [D.int IntKind.i64 (D.getI (nthD (D.getL (nthD (D.getL (nthD ls (Int.toNat i))) 4)) 0)), D.int IntKind.i64 (D.getI (nthD (D.getL (nthD (D.getL (nthD ls (Int.toNat i))) 4)) 1))]]) }]))) else none)) else 
         (bif D.getI (nthD (D.getL (nthD ls (Int.toNat i))) 2) == (2 : Int) then 
          (bif D.getI (nthD (D.getL (nthD ls (Int.toNat i))) 3) == (0 : Int) then 
           (bif rright_pre (D.getS (nthD (D.getL (nthD ls (Int.toNat i))) 1)) then 
            (bif !rright_v0 (D.getS (nthD (D.getL (nthD ls (Int.toNat i))) 1)) then K (Exit.ret) (mkF 67 [(2, AV.dat (D.bool false))]) ([{ sh := Sh.agg [Sh.one, Sh.one, Sh.one, Sh.one, Sh.agg [Sh.one, Sh.one]], dyn := false, frz := false, v := AV.dat (D.agg [D.bool (D.getB (nthD (D.getL (nthD ls (Int.toNat i))) 0)), D.str (D.getS (nthD (D.getL (nthD ls (Int.toNat i))) 1)), D.int IntKind.i64 (D.getI (nthD (D.getL (nthD ls (Int.toNat i))) 2)), D.int IntKind.i64 (D.getI (nthD (D.getL (nthD ls (Int.toNat i))) 3)), D.agg [D.int IntKind.i64 (D.getI (nthD (D.getL (nthD (D.getL (nthD ls (Int.toNat i))) 4)) 0)), D.int IntKind.i64 (D.getI (nthD (D.getL (nthD (D.getL (nthD ls (Int.toNat i))) 4)) 1))]]) }]) else 
             (bif !rref_v0 (D.getI (nthD (D.getL (nthD (D.getL (nthD ls (Int.toNat i))) 4)) 0)) (D.getI (nthD (D.getL (nthD (D.getL (nthD ls (Int.toNat i))) 4)) 1)) then K (Exit.ret) (mkF 67 [(2, AV.dat (D.bool false))]) ([{ sh := Sh.agg [Sh.one, Sh.one, Sh.one, Sh.one, Sh.agg [Sh.one, Sh.one]], dyn := false, frz := false, v := AV.dat (D.agg [D.bool (D.getB (nthD (D.getL (nthD ls (Int.toNat i))) 0)), D.str (D.getS (nthD (D.getL (nthD ls (Int.toNat i))) 1)), D.int IntKind.i64 (D.getI (nthD (D.getL (nthD ls (Int.toNat i))) 2)), D.int IntKind.i64 (D.getI (nthD (D.getL (nthD ls (Int.toNat i))) 3)), D.agg [D.int IntKind.i64 (D.getI (nthD (D.getL (nthD (D.getL (nthD ls (Int.toNat i))) 4)) 0)), D.int IntKind.i64 (D.getI (nthD (D.getL (nthD (D.getL (nthD ls (Int.toNat i))) 4)) 1))]]) }]) else K (Exit.normal) (mkF 67 [(0, AV.dat (D.slc (Sh.agg [Sh.one, Sh.one, Sh.one, Sh.one, Sh.agg [Sh.one, Sh.one]]) ls)), (3, AV.dat (D.int IntKind.i64 (IntKind.wrap IntKind.i64 (i + (1 : Int))))), (11, AV.dat (D.int IntKind.i64 i)), (12, AV.dat (D.int IntKind.i64 (IntKind.wrap IntKind.i64 (i + (1 : Int)))))]) ([{ sh := Sh.agg [Sh.one, Sh.one, Sh.one, Sh.one, Sh.agg [Sh.one, Sh.one]], dyn := false, frz := false, v := AV.dat (D.agg [D.bool (D.getB (nthD (D.getL (nthD ls (Int.toNat i))) 0)), D.str (D.getS (nthD (D.getL (nthD ls (Int.toNat i))) 1)), D.int IntKind.i64 (D.getI (nthD (D.getL (nthD ls (Int.toNat i))) 2)), D.int IntKind.i64 (D.getI (nthD (D.getL (nthD ls (Int.toNat i))) 3)), D.agg [D.int IntKind.i64 (D.getI (nthD (D.getL (nthD (D.getL (nthD ls (Int.toNat i))) 4)) 0)), D.int IntKind.i64 (D.getI (nthD (D.getL (nthD (D.getL (nthD ls (Int.toNat i))) 4)) 1))]]) }]))) else none) else 
           (bif rright_pre (D.getS (nthD (D.getL (nthD ls (Int.toNat i))) 1)) then 
            (bif !rright_v0 (D.getS (nthD (D.getL (nthD ls (Int.toNat i))) 1)) then K (Exit.ret) (mkF 67 [(2, AV.dat (D.bool false))]) ([{ sh := Sh.agg [Sh.one, Sh.one, Sh.one, Sh.one, Sh.agg [Sh.one, Sh.one]], dyn := false, frz := false, v := AV.dat (D.agg [D.bool (D.getB (nthD (D.getL (nthD ls (Int.toNat i))) 0)), D.str (D.getS (nthD (D.getL (nthD ls (Int.toNat i))) 1)), D.int IntKind.i64 (D.getI (nthD (D.getL (nthD ls (Int.toNat i))) 2)), D.int IntKind.i64 (D.getI (nthD (D.getL (nthD ls (Int.toNat i))) 3)), D.agg [D.int IntKind.i64 (D.getI (nthD (D.getL (nthD (D.getL (nthD ls (Int.toNat i))) 4)) 0)), D.int IntKind.i64 (D.getI (nthD (D.getL (nthD (D.getL (nthD ls (Int.toNat i))) 4)) 1))]]) }]) else K (Exit.ret) (mkF 67 [(2, AV.dat (D.bool false))]) ([{ sh := Sh.agg [Sh.one, Sh.one, Sh.one, Sh.one, Sh.agg [Sh.one, Sh.one]], dyn := false, frz := false, v := AV.dat (D.agg [D.bool (D.getB (nthD (D.getL (nthD ls (Int.toNat i))) 0)), D.str (D.getS (nthD (D.getL (nthD ls (Int.toNat i))) 1)), D.int IntKind.i64 (D.getI (nthD (D.getL (nthD ls (Int.toNat i))) 2)), D.int IntKind.i64 (D.getI (nthD (D.getL (nthD ls (Int.toNat i))) 3)), D.agg [D.int IntKind.i64 (D.getI (nthD (D.getL (nthD (D.getL (nthD ls (Int.toNat i))) 4)) 0)), D.int IntKind.i64 (D.getI (nthD (D.getL (nthD (D.getL (nthD ls (Int.toNat i))) 4)) 1))]]) }])) else none)) else 
          (bif rright_pre (D.getS (nthD (D.getL (nthD ls (Int.toNat i))) 1)) then 
           (bif !rright_v0 (D.getS (nthD (D.getL (nthD ls (Int.toNat i))) 1)) then K (Exit.ret) (mkF 67 [(2, AV.dat (D.bool false))]) ([{ sh := Sh.agg [Sh.one, Sh.one, Sh.one, Sh.one, Sh.agg [Sh.one, Sh.one]], dyn := false, frz := false, v := AV.dat (D.agg [D.bool (D.getB (nthD (D.getL (nthD ls (Int.toNat i))) 0)), D.str (D.getS (nthD (D.getL (nthD ls (Int.toNat i))) 1)), D.int IntKind.i64 (D.getI (nthD (D.getL (nthD ls (Int.toNat i))) 2)), D.int IntKind.i64 (D.getI (nthD (D.getL (nthD ls (Int.toNat i))) 3)), D.agg [D.int IntKind.i64 (D.getI (nthD (D.getL (nthD (D.getL (nthD ls (Int.toNat i))) 4)) 0)), D.int IntKind.i64 (D.getI (nthD (D.getL (nthD (D.getL (nthD ls (Int.toNat i))) 4)) 1))]]) }]) else K (Exit.ret) (mkF 67 [(2, AV.dat (D.bool false))]) ([{ sh := Sh.agg [Sh.one, Sh.one, Sh.one, Sh.one, Sh.agg [Sh.one, Sh.one]], dyn := false, frz := false, v := AV.dat (D.agg [D.bool (D.getB (nthD (D.getL (nthD ls (Int.toNat i))) 0)), D.str (D.getS (nthD (D.getL (nthD ls (Int.toNat i))) 1)), D.int IntKind.i64 (D.getI (nthD (D.getL (nthD ls (Int.toNat i))) 2)), D.int IntKind.i64 (D.getI (nthD (D.getL (nthD ls (Int.toNat i))) 3)), D.agg [D.int IntKind.i64 (D.getI (nthD (D.getL (nthD (D.getL (nthD ls (Int.toNat i))) 4)) 0)), D.int IntKind.i64 (D.getI (nthD (D.getL (nthD (D.getL (nthD ls (Int.toNat i))) 4)) 1))]]) }])) else none))) else 
        (bif D.getI (nthD (D.getL (nthD ls (Int.toNat i))) 2) == (3 : Int) then 
         (bif rnum_v0 (D.getI (nthD (D.getL (nthD ls (Int.toNat i))) 3)) then 
          (bif D.getI (nthD (D.getL (nthD ls (Int.toNat i))) 2) == (2 : Int) then 
           (bif D.getI (nthD (D.getL (nthD ls (Int.toNat i))) 3) == (0 : Int) then 
            (bif rright_pre (D.getS (nthD (D.getL (nthD ls (Int.toNat i))) 1)) then 
             (bif !rright_v0 (D.getS (nthD (D.getL (nthD ls (Int.toNat i))) 1)) then K (Exit.ret) (mkF 67 [(2, AV.dat (D.bool false))]) ([{ sh := Sh.agg [Sh.one, Sh.one, Sh.one, Sh.one, Sh.agg [Sh.one, Sh.one]], dyn := false, frz := false, v := AV.dat (D.agg [D.bool (D.getB (nthD (D.getL (nthD ls (Int.toNat i))) 0)), D.str (D.getS (nthD (D.getL (nthD ls (Int.toNat i))) 1)), D.int IntKind.i64 (D.getI (nthD (D.getL (nthD ls (Int.toNat i))) 2)), D.int IntKind.i64 (D.getI (nthD (D.getL (nthD ls (Int.toNat i))) 3)), D.agg [D.int IntKind.i64 (D.getI (nthD (D.getL (nthD (D.getL (nthD ls (Int.toNat i))) 4)) 0)), D.int IntKind.i64 (D.getI (nthD (D.getL (nthD (D.getL (nthD ls (Int.toNat i))) 4)) 1))]]) }]) else 
              (bif !false != (D.getI (nthD (D.getL (nthD (D.getL (nthD ls (Int.toNat i))) 4)) 0) == (0 : Int) && (D.getI (nthD (D.getL (nthD (D.getL (nthD ls (Int.toNat i))) 4)) 1) == (0 : Int) && true)) then 
               (bif !rref_v0 (D.getI (nthD (D.getL (nthD (D.getL (nthD ls (Int.toNat i))) 4)) 0)) (D.getI (nthD (D.getL (nthD (D.getL (nthD ls (Int.toNat i))) 4)) 1)) then K (Exit.ret) (mkF 67 [(2, AV.dat (D.bool false))]) ([{ sh := Sh.agg [Sh.one, Sh.one, Sh.one, Sh.one, Sh.agg [Sh.one, Sh.one]], dyn := false, frz := false, v := AV.dat (D.agg [D.bool (D.getB (nthD (D.getL (nthD ls (Int.toNat i))) 0)), D.str (D.getS (nthD (D.getL (nthD ls (Int.toNat i))) 1)), D.int IntKind.i64 (D.getI (nthD (D.getL (nthD ls (Int.toNat i))) 2)), D.int IntKind.i64 (D.getI (nthD (D.getL (nthD ls (Int.toNat i))) 3)), D.agg [D.int IntKind.i64 (D.getI (nthD (D.getL (nthD (D.getL (nthD ls (Int.toNat i))) 4)) 0)), D.int IntKind.i64 (D.getI (nthD (D.getL (nthD (D.getL (nthD ls (Int.toNat i))) 4)) 1))]]) }]) else K (Exit.normal) (mkF 67 [(0, AV.dat (D.slc (Sh.agg [Sh.one, Sh.one, Sh.one, Sh.one, Sh.agg [Sh.one, Sh.one]]) ls)), (3, AV.dat (D.int IntKind.i64 (IntKind.wrap IntKind.i64 (i + (1 : Int))))), (11, AV.dat (D.int IntKind.i64 i)), (12, AV.dat (D.int IntKind.i64 (IntKind.wrap IntKind.i64 (i + (1 : Int)))))]) ([{ sh := Sh.agg [Sh.one, Sh.one, Sh.one, Sh.one, Sh.agg [Sh.one, Sh.one]], dyn := false, frz := false, v := AV.dat (D.agg [D.bool (D.getB (nthD (D.getL (nthD ls (Int.toNat i))) 0)), D.str (D.getS (nthD (D.getL (nthD ls (Int.toNat i))) 1)), D.int IntKind.i64 (D.getI (nthD (D.getL (nthD ls (Int.toNat i))) 2)), D.int IntKind.i64 (D.getI (nthD (D.getL (nthD ls (Int.toNat i))) 3)), D.agg [D.int IntKind.i64 (D.getI (nthD (D.getL (nthD (D.getL (nthD ls (Int.toNat i))) 4)) 0)), D.int IntKind.i64 (D.getI (nthD (D.getL (nthD (D.getL (nthD ls (Int.toNat i))) 4)) 1))]]) }])) else K (Exit.normal) (mkF 67 [(0, AV.dat (D.slc (Sh.agg [Sh.one, Sh.one, Sh.one, Sh.one, Sh.agg [Sh.one, Sh.one]]) ls)), (3, AV.dat (D.int IntKind.i64 (IntKind.wrap IntKind.i64 (i + (1 : Int))))), (11, AV.dat (D.int IntKind.i64 i)), (12, AV.dat (D.int IntKind.i64 (IntKind.wrap IntKind.i64 (i + (1 : Int)))))]) ([{ sh := Sh.agg [Sh.one, Sh.one, Sh.one, Sh.one, Sh.agg [Sh.one, Sh.one]], dyn := false, frz := false, v := AV.dat (D.agg [D.bool (D.getB (nthD (D.getL (nthD ls (Int.toNat i))) 0)), D.str (D.getS (nthD (D.getL (nthD ls (Int.toNat i))) 1)), D.int IntKind.i64 (D.getI (nthD (D.getL (nthD ls (Int.toNat i))) 2)), D.int IntKind.i64 (D.getI (nthD (D.getL (nthD ls (Int.toNat i))) 3)), D.agg [D.int IntKind.i64 (D.getI (nthD (D.getL (nthD (D.getL (nthD ls (Int.toNat i))) 4)) 0)), D.int IntKind.i64 (D.getI (nthD (D.getL (nthD (D.getL (nthD ls (Int.toNat i))) 4)) 1))]]) }]))) else none) else 
            (bif rright_pre (D.getS (nthD (D.getL (nthD ls (Int.toNat i))) 1)) then 
             (bif !rright_v0 (D.getS (nthD (D.getL (nthD ls (Int.toNat i))) 1)) then K (Exit.ret) (mkF 67 [(2, AV.dat (D.bool false))]) ([{ sh := Sh.agg [Sh.one, Sh.one, Sh.one, Sh.one, Sh.agg [Sh.one, Sh.one]], dyn := false, frz := false, v := AV.dat (D.agg [D.bool (D.getB (nthD (D.getL (nthD ls (Int.toNat i))) 0)), D.str (D.getS (nthD (D.getL (nthD ls (Int.toNat i))) 1)), D.int IntKind.i64 (D.getI (nthD (D.getL (nthD ls (Int.toNat i))) 2)), D.int IntKind.i64 (D.getI (nthD (D.getL (nthD ls (Int.toNat i))) 3)), D.agg [D.int IntKind.i64 (D.getI (nthD (D.getL (nthD (D.getL (nthD ls (Int.toNat i))) 4)) 0)), D.int IntKind.i64 (D.getI (nthD (D.getL (nthD (D.getL (nthD ls (Int.toNat i))) 4)) 1))]]) }]) else 
              (bif !false != (D.getI (nthD (D.getL (nthD (D.getL (nthD ls (Int.toNat i))) 4)) 0) == (0 : Int) && (D.getI (nthD (D.getL (nthD (D.getL (nthD ls (Int.toNat i))) 4)) 1) == (0 : Int) && true)) then K (Exit.ret) (mkF 67 [(2, AV.dat (D.bool false))]) ([{ sh := Sh.agg [Sh.one, Sh.one, Sh.one, Sh.one, Sh.agg [Sh.one, Sh.one]], dyn := false, frz := false, v := AV.dat (D.agg [D.bool (D.getB (nthD (D.getL (nthD ls (Int.toNat i))) 0)), D.str (D.getS (nthD (D.getL (nthD ls (Int.toNat i))) 1)), D.int IntKind.i64 (D.getI (nthD (D.getL (nthD ls (Int.toNat i))) 2)), D.int IntKind.i64 (D.getI (nthD (D.getL (nthD ls (Int.toNat i))) 3)), D.agg [D.int IntKind.i64 (D.getI (nthD (D.getL (nthD (D.getL (nthD ls (Int.toNat i))) 4)) 0)), D.int IntKind.i64 (D.getI (nthD (D.getL (nthD (D.getL (nthD ls (Int.toNat i))) 4)) 1))]]) }]) else K (Exit.normal) (mkF 67 [(0, AV.dat (D.slc (Sh.agg [Sh.one, Sh.one, Sh.one, Sh.one, Sh.agg [Sh.one, Sh.one]]) ls)), (3, AV.dat (D.int IntKind.i64 (IntKind.wrap IntKind.i64 (i + (1 : Int))))), (11, AV.dat (D.int IntKind.i64 i)), (12, AV.dat (D.int IntKind.i64 (IntKind.wrap IntKind.i64 (i + (1 : Int)))))]) ([{ sh := Sh.agg [Sh.one, Sh.one, Sh.one, Sh.one, Sh.agg [Sh.one, Sh.one]], dyn := false, frz := false, v := AV.dat (D.agg [D.bool (D.getB (nthD (D.getL (nthD ls (Int.toNat i))) 0)), D.str (D.getS (nthD (D.getL (nthD ls (Int.toNat i))) 1)), D.int IntKind.i64 (D.getI (nthD (D.getL (nthD ls (Int.toNat i))) 2)), D.int IntKind.i64 (D.getI (nthD (D.getL (nthD ls (Int.toNat i))) 3)), D.agg [D.int IntKind.i64 (D.getI (nthD (D.getL (nthD (D.getL (nthD ls (Int.toNat i))) 4)) 0)), D.int IntKind.i64 (D.getI (nthD (D.getL (nthD (D.getL (nthD ls (Int.toNat i))) 4)) 1))]]) }]))) else none)) else 
           (bif rright_pre (D.getS (nthD (D.getL (nthD ls (Int.toNat i))) 1)) then 
            (bif !rright_v0 (D.getS (nthD (D.getL (nthD ls (Int.toNat i))) 1)) then K (Exit.ret) (mkF 67 [(2, AV.dat (D.bool false))]) ([{ sh := Sh.agg [Sh.one, Sh.one, Sh.one, Sh.one, Sh.agg [Sh.one, Sh.one]], dyn := false, frz := false, v := AV.dat (D.agg [D.bool (D.getB (nthD (D.getL (nthD ls (Int.toNat i))) 0)), D.str (D.getS (nthD (D.getL (nthD ls (Int.toNat i))) 1)), D.int IntKind.i64 (D.getI (nthD (D.getL (nthD ls (Int.toNat i))) 2)), D.int IntKind.i64 (D.getI (nthD (D.getL (nthD ls (Int.toNat i))) 3)), D.agg [D.int IntKind.i64 (D.getI (nthD (D.getL (nthD (D.getL (nthD ls (Int.toNat i))) 4)) 0)), D.int IntKind.i64 (D.getI (nthD (D.getL (nthD (D.getL (nthD ls (Int.toNat i))) 4)) 1))]]) }]) else 
             (bif !false != (D.getI (nthD (D.getL (nthD (D.getL (nthD ls (Int.toNat i))) 4)) 0) == (0 : Int) && (D.getI (nthD (D.getL (nthD (D.getL (nthD ls (Int.toNat i))) 4)) 1) == (0 : Int) && true)) then K (Exit.ret) (mkF 67 [(2, AV.dat (D.bool false))]) ([{ sh := Sh.agg [Sh.one, Sh.one, Sh.one, Sh.one, Sh.agg [Sh.one, Sh.one]], dyn := false, frz := false, v := AV.dat (D.agg [D.bool (D.getB (nthD (D.getL (nthD ls (Int.toNat i))) 0)), D.str (D.getS (nthD (D.getL (nthD ls (Int.toNat i))) 1)), D.int IntKind.i64 (D.getI (nthD (D.getL (nthD ls (Int.toNat i))) 2)), D.int IntKind.i64 (D.getI (nthD (D.getL (nthD ls (Int.toNat i))) 3)), D.agg [D.int IntKind.i64 (D.getI (nthD (D.getL (nthD (D.getL (nthD ls (Int.toNat i))) 4)) 0)), D.int IntKind.i64 (D.getI (nthD (D.getL (nthD (D.getL (nthD ls (Int.toNat i))) 4)) 1))]]) }]) else K (Exit.normal) (mkF 67 [(0, AV.dat (D.slc (Sh.agg [Sh.one, Sh.one, Sh.one, Sh.one, Sh.agg [Sh.one, Sh.one]]) ls)), (3, AV.dat (D.int IntKind.i64 (IntKind.wrap IntKind.i64 (i + (1 : Int))))), (11, AV.dat (D.int IntKind.i64 i)), (12, AV.dat (D.int IntKind.i64 (IntKind.wrap IntKind.i64 (i + (1 : Int)))))]) ([{ sh := Sh.agg [Sh.one, Sh.one, Sh.one, Sh.one, Sh.agg [Sh.one, Sh.one]], dyn := false, frz := false, v := AV.dat (D.agg [D.bool (D.getB (nthD (D.getL (nthD ls (Int.toNat i))) 0)), D.str (D.getS (nthD (D.getL (nthD ls (Int.toNat i))) 1)), D.int IntKind.i64 (D.getI (nthD (D.getL (nthD ls (Int.toNat i))) 2)), D.int IntKind.i64 (D.getI (nthD (D.getL (nthD ls (Int.toNat i))) 3)), D.agg [D.int IntKind.i64 (D.getI (nthD (D.getL (nthD (D.getL (nthD ls (Int.toNat i))) 4)) 0)), D.int IntKind.i64 (D.getI (nthD (D.getL (nthD (D.getL (nthD ls (Int.toNat i))) 4)) 1))]]) }]))) else none)) else 
          (bif D.getI (nthD (D.getL (nthD ls (Int.toNat i))) 2) == (2 : Int) then 
           (bif D.getI (nthD (D.getL (nthD ls (Int.toNat i))) 3) == (0 : Int) then 
            (bif rright_pre (D.getS (nthD (D.getL (nthD ls (Int.toNat i))) 1)) then 
             (bif !rright_v0 (D.getS (nthD (D.getL (nthD ls (Int.toNat i))) 1)) then K (Exit.ret) (mkF 67 [(2, AV.dat (D.bool false))]) ([{ sh := Sh.agg [Sh.one, Sh.one, Sh.one, Sh.one, Sh.agg [Sh.one, Sh.one]], dyn := false, frz := false, v := AV.dat (D.agg [D.bool (D.getB (nthD (D.getL (nthD ls (Int.toNat i))) 0)), D.str (D.getS (nthD (D.getL (nthD ls (Int.toNat i))) 1)), D.int IntKind.i64 (D.getI (nthD (D.getL (nthD ls (Int.toNat i))) 2)), D.int IntKind.i64 (D.getI (nthD (D.getL (nthD ls (Int.toNat i))) 3)), D.agg [D.int IntKind.i64 (D.getI (nthD (D.getL (nthD (D.getL (nthD ls (Int.toNat i))) 4)) 0)), D.int IntKind.i64 (D.getI (nthD (D.getL (nthD (D.getL (nthD ls (Int.toNat i))) 4)) 1))]]) }]) else 
              (bif !rref_v0 (D.getI (nthD (D.getL (nthD (D.getL (nthD ls (Int.toNat i))) 4)) 0)) (D.getI (nthD (D.getL (nthD (D.getL (nthD ls (Int.toNat i))) 4)) 1)) then K (Exit.ret) (mkF 67 [(2, AV.dat (D.bool false))]) ([{ sh := Sh.agg [Sh.one, Sh.one, Sh.one, Sh.one, Sh.agg [Sh.one, Sh.one]], dyn := false, frz := false, v := AV.dat (D.agg [D.bool (D.getB (nthD (D.getL (nthD ls (Int.toNat i))) 0)), D.str (D.getS (nthD (D.getL (nthD ls (Int.toNat i))) 1)), D.int IntKind.i64 (D.getI (nthD (D.getL (nthD ls (Int.toNat i))) 2)), D.int IntKind.i64 (D.getI (nthD (D.getL (nthD ls (Int.toNat i))) 3)), D.agg [D.int IntKind.i64 (D.getI (nthD (D.getL (nthD (D.getL (nthD ls (Int.toNat i))) 4)) 0)), D.int IntKind.i64 (D.getI (nthD (D.getL (nthD (D.getL (nthD ls (Int.toNat i))) 4)) 1))]]) }]) else K (Exit.normal) (mkF 67 [(0, AV.dat (D.slc (Sh.agg [Sh.one, Sh.one, Sh.one, Sh.one, Sh.agg [Sh.one, Sh.one]]) ls)), (3, AV.dat (D.int IntKind.i64 (IntKind.wrap IntKind.i64 (i + (1 : Int))))), (11, AV.dat (D.int IntKind.i64 i)), (12, AV.dat (D.int IntKind.i64 (IntKind.wrap IntKind.i64 (i + (1 : Int)))))]) ([{ sh := Sh.agg [Sh.one, Sh.one, Sh.one, Sh.one, Sh.agg [Sh.one, Sh.one]], dyn := false, frz := false, v := AV.dat (D.agg [D.bool (D.getB (nthD (D.getL (nthD ls (Int.toNat i))) 0)), D.str (D.getS (nthD (D.getL (nthD ls (Int.toNat i))) 1)), D.int IntKind.i64 (D.getI (nthD (D.getL (nthD ls (Int.toNat i))) 2)), D.int IntKind.i64 (D.getI (nthD (D.getL (nthD ls (Int.toNat i))) 3)), D.agg [D.int IntKind.i64 (D.getI (nthD (D.getL (nthD (D.getL (nthD ls (Int.toNat i))) 4)) 0)), D.int IntKind.i64 (D.getI (nthD (D.getL (nthD (D.getL (nthD ls (Int.toNat i))) 4)) 1))]]) }]))) else none) else 
            (bif rright_pre (D.getS (nthD (D.getL (nthD ls (Int.toNat i))) 1)) then 
             (bif !rright_v0 (D.getS (nthD (D.getL (nthD ls (Int.toNat i))) 1)) then K (Exit.ret) (mkF 67 [(2, AV.dat (D.bool false))]) ([{ sh := Sh.agg [Sh.one, Sh.one, Sh.one, Sh.one, Sh.agg [Sh.one, Sh.one]], dyn := false, frz := false, v := AV.dat (D.agg [D.bool (D.getB (nthD (D.getL (nthD ls (Int.toNat i))) 0)), D.str (D.getS (nthD (D.getL (nthD ls (Int.toNat i))) 1)), D.int IntKind.i64 (D.getI (nthD (D.getL (nthD ls (Int.toNat i))) 2)), D.int IntKind.i64 (D.getI (nthD (D.getL (nthD ls (Int.toNat i))) 3)), D.agg [D.int IntKind.i64 (D.getI (nthD (D.getL (nthD (D.getL (nthD ls (Int.toNat i))) 4)) 0)), D.int IntKind.i64 (D.getI (nthD (D.getL (nthD (D.getL (nthD ls (Int.toNat i))) 4)) 1))]]) }]) else K (Exit.ret) (mkF 67 [(2, AV.dat (D.bool false))]) ([{ sh := Sh.agg [Sh.one, Sh.one, Sh.one, Sh.one, Sh.agg [Sh.one, Sh.one]], dyn := false, frz := false, v := AV.dat (D.agg [D.bool (D.getB (nthD (D.getL (nthD ls (Int.toNat i))) 0)), D.str (D.getS (nthD (D.getL (nthD ls (Int.toNat i))) 1)), D.int IntKind.i64 (D.getI (nthD (D.getL (nthD ls (Int.toNat i))) 2)), D.int IntKind.i64 (D.getI (nthD (D.getL (nthD ls (Int.toNat i))) 3)), D.agg [D.int IntKind.i64 (D.getI (nthD (D.getL (nthD (D.getL (nthD ls (Int.toNat i))) 4)) 0)), D.int IntKind.i64 (D.getI (nthD (D.getL (nthD (D.getL (nthD ls (Int.toNat i))) 4)) 1))]]) }])) else none)) else 
           (bif rright_pre (D.getS (nthD (D.getL (nthD ls (Int.toNat i))) 1)) then 
            (bif !rright_v0 (D.getS (nthD (D.getL (nthD ls (Int.toNat i))) 1)) then K (Exit.ret) (mkF 67 [(2, AV.dat (D.bool false))]) ([{ sh := Sh.agg [Sh.one, Sh.one, Sh.one, Sh.one, Sh.agg [Sh.one, Sh.one]], dyn := false, frz := false, v := AV.dat (D.agg [D.bool (D.getB (nthD (D.getL (nthD ls (Int.toNat i))) 0)), D.str (D.getS (nthD (D.getL (nthD ls (Int.toNat i))) 1)), D.int IntKind.i64 (D.getI (nthD (D.getL (nthD ls (Int.toNat i))) 2)), D.int IntKind.i64 (D.getI (nthD (D.getL (nthD ls (Int.toNat i))) 3)), D.agg [D.int IntKind.i64 (D.getI (nthD (D.getL (nthD (D.getL (nthD ls (Int.toNat i))) 4)) 0)), D.int IntKind.i64 (D.getI (nthD (D.getL (nthD (D.getL (nthD ls (Int.toNat i))) 4)) 1))]]) }]) else K (Exit.ret) (mkF 67 [(2, AV.dat (D.bool false))]) ([{ sh := Sh.agg [Sh.one, Sh.one, Sh.one, Sh.one, Sh.agg [Sh.one, Sh.one]], dyn := false, frz := false, v := AV.dat (D.agg [D.bool (D.getB (nthD (D.getL (nthD ls (Int.toNat i))) 0)), D.str (D.getS (nthD (D.getL (nthD ls (Int.toNat i))) 1)), D.int IntKind.i64 (D.getI (nthD (D.getL (nthD ls (Int.toNat i))) 2)), D.int IntKind.i64 (D.getI (nthD (D.getL (nthD ls (Int.toNat i))) 3)), D.agg [D.int IntKind.i64 (D.getI (nthD (D.getL (nthD (D.getL (nthD ls (Int.toNat i))) 4)) 0)), D.int IntKind.i64 (D.getI (nthD (D.getL (nthD (D.getL (nthD ls (Int.toNat i))) 4)) 1))]]) }])) else none))) else 
         (bif D.getI (nthD (D.getL (nthD ls (Int.toNat i))) 2) == (2 : Int) then 
          (bif D.getI (nthD (D.getL (nthD ls (Int.toNat i))) 3) == (0 : Int) then 
           (bif rright_pre (D.getS (nthD (D.getL (nthD ls (Int.toNat i))) 1)) then 
            (bif !rright_v0 (D.getS (nthD (D.getL (nthD ls (Int.toNat i))) 1)) then K (Exit.ret) (mkF 67 [(2, AV.dat (D.bool false))]) ([{ sh := Sh.agg [Sh.one, Sh.one, Sh.one, Sh.one, Sh.agg [Sh.one, Sh.one]], dyn := false, frz := false, v := AV.dat (D.agg [D.bool (D.getB (nthD (D.getL (nthD ls (Int.toNat i))) 0)), D.str (D.getS (nthD (D.getL (nthD ls (Int.toNat i))) 1)), D.int IntKind.i64 (D.getI (nthD (D.getL (nthD ls (Int.toNat i))) 2)), D.int IntKind.i64 (D.getI (nthD (D.getL (nthD ls (Int.toNat i))) 3)), D.agg [D.int IntKind.i64 (D.getI (nthD (D.getL (nthD (D.getL (nthD ls (Int.toNat i))) 4)) 0)), D.int IntKind.i64 (D.getI (nthD (D.getL (nthD (D.getL (nthD ls (Int.toNat i))) 4)) 1))]]) }]) else 
             (bif !rref_v0 (D.getI (nthD (D.getL (nthD (D.getL (nthD ls (Int.toNat i))) 4)) 0)) (D.getI (nthD (D.getL (nthD (D.getL (nthD ls (Int.toNat i))) 4)) 1)) then K (Exit.ret) (mkF 67 [(2, AV.dat (D.bool false))]) ([{ sh := Sh.agg [Sh.one, Sh.one, Sh.one, Sh.one, Sh.agg [Sh.one, Sh.one]], dyn := false, frz := false, v := AV.dat (D.agg [D.bool (D.getB (nthD (D.getL (nthD ls (Int.toNat i))) 0)), D.str (D.getS (nthD (D.getL (nthD ls (Int.toNat i))) 1)), D.int IntKind.i64 (D.getI (nthD (D.getL (nthD ls (Int.toNat i))) 2)), D.int IntKind.i64 (D.getI (nthD (D.getL (nthD ls (Int.toNat i))) 3)), D.agg [D.int IntKind.i64 (D.getI (nthD (D.getL (nthD (D.getL (nthD ls (Int.toNat i))) 4)) 0)), D.int IntKind.i64 (D.getI (nthD (D.getL (nthD (D.getL (nthD ls (Int.toNat i))) 4)) 1))]]) }]) else K (Exit.normal) (mkF 67 [(0, AV.dat (D.slc (Sh.agg [Sh.one, Sh.one, Sh.one, Sh.one, Sh.agg [Sh.one, Sh.one]]) ls)), (3, AV.dat (D.int IntKind.i64 (IntKind.wrap IntKind.i64 (i + (1 : Int))))), (11, AV.dat (D.int IntKind.i64 i)), (12, AV.dat (D.int IntKind.i64 (IntKind.wrap IntKind.i64 (i + (1 : Int)))))]) ([{ sh := Sh.agg [Sh.one, Sh.one, Sh.one, Sh.one, Sh.agg [Sh.one, Sh.one]], dyn := false, frz := false, v := AV.dat (D.agg [D.bool (D.getB (nthD (D.getL (nthD ls (Int.toNat i))) 0)), D.str (D.getS (nthD (D.getL (nthD ls (Int.toNat i))) 1)), D.int IntKind.i64 (D.getI (nthD (D.getL (nthD ls (Int.toNat i))) 2)), D.int IntKind.i64 (D.getI (nthD (D.getL (nthD ls (Int.toNat i))) 3)), D.agg [D.int IntKind.i64 (D.getI (nthD (D.getL (nthD (D.getL (nthD ls (Int.toNat i))) 4)) 0)), D.int IntKind.i64 (D.getI (nthD (D.getL (nthD (D.getL (nthD ls (Int.toNat i))) 4)) 1))]]) }]))) else none) else 
           (bif rright_pre (D.getS (nthD (D.getL (nthD ls (Int.toNat i))) 1)) then 
            (bif !rright_v0 (D.getS (nthD (D.getL (nthD ls (Int.toNat i))) 1)) then K (Exit.ret) (mkF 67 [(2, AV.dat (D.bool false))]) ([{ sh := Sh.agg [Sh.one, Sh.one, Sh.one, Sh.one, Sh.agg [Sh.one, Sh.one]], dyn := false, frz := false, v := AV.dat (D.agg [D.bool (D.getB (nthD (D.getL (nthD ls (Int.toNat i))) 0)), D.str (D.getS (nthD (D.getL (nthD ls (Int.toNat i))) 1)), D.int IntKind.i64 (D.getI (nthD (D.getL (nthD ls (Int.toNat i))) 2)), D.int IntKind.i64 (D.getI (nthD (D.getL (nthD ls (Int.toNat i))) 3)), D.agg [D.int IntKind.i64 (D.getI (nthD (D.getL (nthD (D.getL (nthD ls (Int.toNat i))) 4)) 0)), D.int IntKind.i64 (D.getI (nthD (D.getL (nthD (D.getL (nthD ls (Int.toNat i))) 4)) 1))]]) }]) else K (Exit.ret) (mkF 67 [(2, AV.dat (D.bool false))]) ([{ sh := Sh.agg [Sh.one, Sh.one, Sh.one, Sh.one, Sh.agg [Sh.one, Sh.one]], dyn := false, frz := false, v := AV.dat (D.agg [D.bool (D.getB (nthD (D.getL (nthD ls (Int.toNat i))) 0)), D.str (D.getS (nthD (D.getL (nthD ls (Int.toNat i))) 1)), D.int IntKind.i64 (D.getI (nthD (D.getL (nthD ls (Int.toNat i))) 2)), D.int IntKind.i64 (D.getI (nthD (D.getL (nthD ls (Int.toNat i))) 3)), D.agg [D.int IntKind.i64 (D.getI (nthD (D.getL (nthD (D.getL (nthD ls (Int.toNat i))) 4)) 0)), D.int IntKind.i64 (D.getI (nthD (D.getL (nthD (D.getL (nthD ls (Int.toNat i))) 4)) 1))]]) }])) else none)) else 
          (bif rright_pre (D.getS (nthD (D.getL (nthD ls (Int.toNat i))) 1)) then 
           (bif !rright_v0 (D.getS (nthD (D.getL (nthD ls (Int.toNat i))) 1)) then K (Exit.ret) (mkF 67 [(2, AV.dat (D.bool false))]) ([{ sh := Sh.agg [Sh.one, Sh.one, Sh.one, Sh.one, Sh.agg [Sh.one, Sh.one]], dyn := false, frz := false, v := AV.dat (D.agg [D.bool (D.getB (nthD (D.getL (nthD ls (Int.toNat i))) 0)), D.str (D.getS (nthD (D.getL (nthD ls (Int.toNat i))) 1)), D.int IntKind.i64 (D.getI (nthD (D.getL (nthD ls (Int.toNat i))) 2)), D.int IntKind.i64 (D.getI (nthD (D.getL (nthD ls (Int.toNat i))) 3)), D.agg [D.int IntKind.i64 (D.getI (nthD (D.getL (nthD (D.getL (nthD ls (Int.toNat i))) 4)) 0)), D.int IntKind.i64 (D.getI (nthD (D.getL (nthD (D.getL (nthD ls (Int.toNat i))) 4)) 1))]]) }]) else K (Exit.ret) (mkF 67 [(2, AV.dat (D.bool false))]) ([{ sh := Sh.agg [Sh.one, Sh.one, Sh.one, Sh.one, Sh.agg [Sh.one, Sh.one]], dyn := false, frz := false, v := AV.dat (D.agg [D.bool (D.getB (nthD (D.getL (nthD ls (Int.toNat i))) 0)), D.str (D.getS (nthD (D.getL (nthD ls (Int.toNat i))) 1)), D.int IntKind.i64 (D.getI (nthD (D.getL (nthD ls (Int.toNat i))) 2)), D.int IntKind.i64 (D.getI (nthD (D.getL (nthD ls (Int.toNat i))) 3)), D.agg [D.int IntKind.i64 (D.getI (nthD (D.getL (nthD (D.getL (nthD ls (Int.toNat i))) 4)) 0)), D.int IntKind.i64 (D.getI (nthD (D.getL (nthD (D.getL (nthD ls (Int.toNat i))) 4)) 1))]]) }])) else none))))) else none) else none) else none) else K (Exit.exit 0) (mkF 67 []) ([])) := by kernel_rfl
theorem rr13_hr (lp : Loops) (ls : List D) : ∀ (sA : Int) (K : Kt) (N : Int → Option Res), (∀ sB fr' σ', cleanF (liveAt Try.f13 0) 0 fr' = rr13_fr ls sB → trim (0) (rr13_fr ls sB) σ' = rr13_st ls sB → K .normal fr' σ' = N sB) →
    oneRound (envOf tab SpD1 [] lp []) Try.f13 0 (0) (rr13_fr ls sA) (rr13_st ls sA) K = (rr13_step ls sA).k (LK K N) := by
  intro i K N hN
  refine (rr13_round lp ls i K).trans ?_
  show _ = T.k ((
  .chk (!decide (i < (↑(List.length ls) : Int)) || decide ((0 : Int) ≤ i) && (decide (Int.toNat i < List.length ls) && (okE (Ek.agg [Ek.bool, Ek.str, Ek.int IntKind.i64, Ek.int IntKind.i64, Ek.agg [Ek.int IntKind.i64, Ek.int IntKind.i64]]) (nthD ls (Int.toNat i)) && (!D.getB (nthD (D.getL (nthD ls (Int.toNat i))) 0) || rright_pre (D.getS (nthD (D.getL (nthD ls (Int.toNat i))) 1)))))) (
   .br (!decide (i < (↑(List.length ls) : Int))) (.leaf (.inr ((some 0), mkF 67 [], []))) (
    .br (decide (i < (↑(List.length ls) : Int)) && bif D.getB (nthD (D.getL (nthD ls (Int.toNat i))) 0) then bif D.getI (nthD (D.getL (nthD ls (Int.toNat i))) 2) == (1 : Int) then bif rnum_v0 (D.getI (nthD (D.getL (nthD ls (Int.toNat i))) 3)) then bif D.getI (nthD (D.getL (nthD ls (Int.toNat i))) 2) == (2 : Int) then bif D.getI (nthD (D.getL (nthD ls (Int.toNat i))) 3) == (0 : Int) then !rright_v0 (D.getS (nthD (D.getL (nthD ls (Int.toNat i))) 1)) || !(D.getI (nthD (D.getL (nthD (D.getL (nthD ls (Int.toNat i))) 4)) 0) == (0 : Int) && (D.getI (nthD (D.getL (nthD (D.getL (nthD ls (Int.toNat i))) 4)) 1) == (0 : Int) && true)) && !rref_v0 (D.getI (nthD (D.getL (nthD (D.getL (nthD ls (Int.toNat i))) 4)) 0)) (D.getI (nthD (D.getL (nthD (D.getL (nthD ls (Int.toNat i))) 4)) 1)) else !rright_v0 (D.getS (nthD (D.getL (nthD ls (Int.toNat i))) 1)) || !(D.getI (nthD (D.getL (nthD (D.getL (nthD ls (Int.toNat i))) 4)) 0) == (0 : Int) && (D.getI (nthD (D.getL (nthD (D.getL (nthD ls (Int.toNat i))) 4)) 1) == (0 : Int) && true)) else !rright_v0 (D.getS (nthD (D.getL (nthD ls (Int.toNat i))) 1)) || !(D.getI (nthD (D.getL (nthD (D.getL (nthD ls (Int.toNat i))) 4)) 0) == (0 : Int) && (D.getI (nthD (D.getL (nthD (D.getL (nthD ls (Int.toNat i))) 4)) 1) == (0 : Int) && true)) else !D.getI (nthD (D.getL (nthD ls (Int.toNat i))) 2) == (2 : Int) || (!D.getI (nthD (D.getL (nthD ls (Int.toNat i))) 3) == (0 : Int) || (!rright_v0 (D.getS (nthD (D.getL (nthD ls (Int.toNat i))) 1)) || !rref_v0 (D.getI (nthD (D.getL (nthD (D.getL (nthD ls (Int.toNat i))) 4)) 0)) (D.getI (nthD (D.getL (nthD (D.getL (nthD ls (Int.toNat i))) 4)) 1)))) else bif D.getI (nthD (D.getL (nthD ls (Int.toNat i))) 2) == (3 : Int) then bif rnum_v0 (D.getI (nthD (D.getL (nthD ls (Int.toNat i))) 3)) then bif D.getI (nthD (D.getL (nthD ls (Int.toNat i))) 2) == (2 : Int) then bif D.getI (nthD (D.getL (nthD ls (Int.toNat i))) 3) == (0 : Int) then !rright_v0 (D.getS (nthD (D.getL (nthD ls (Int.toNat i))) 1)) || !(D.getI (nthD (D.getL (nthD (D.getL (nthD ls (Int.toNat i))) 4)) 0) == (0 : Int) && (D.getI (nthD (D.getL (nthD (D.getL (nthD ls (Int.toNat i))) 4)) 1) == (0 : Int) && true)) && !rref_v0 (D.getI (nthD (D.getL (nthD (D.getL (nthD ls (Int.toNat i))) 4)) 0)) (D.getI (nthD (D.getL (nthD (D.getL (nthD ls (Int.toNat i))) 4)) 1)) else !rright_v0 (D.getS (nthD (D.getL (nthD ls (Int.toNat i))) 1)) || !(D.getI (nthD (D.getL (nthD (D.getL (nthD ls (Int.toNat i))) 4)) 0) == (0 : Int) && (D.getI (nthD (D.getL (nthD (D.getL (nthD ls (Int.toNat i))) 4)) 1) == (0 : Int) && true)) else !rright_v0 (D.getS (nthD (D.getL (nthD ls (Int.toNat i))) 1)) || !(D.getI (nthD (D.getL (nthD (D.getL (nthD ls (Int.toNat i))) 4)) 0) == (0 : Int) && (D.getI (nthD (D.getL (nthD (D.getL (nthD ls (Int.toNat i))) 4)) 1) == (0 : Int) && true)) else !D.getI (nthD (D.getL (nthD ls (Int.toNat i))) 2) == (2 : Int) || (!D.getI (nthD (D.getL (nthD ls (Int.toNat i))) 3) == (0 : Int) || (!rright_v0 (D.getS (nthD (D.getL (nthD ls (Int.toNat i))) 1)) || !rref_v0 (D.getI (nthD (D.getL (nthD (D.getL (nthD ls (Int.toNat i))) 4)) 0)) (D.getI (nthD (D.getL (nthD (D.getL (nthD ls (Int.toNat i))) 4)) 1)))) else !D.getI (nthD (D.getL (nthD ls (Int.toNat i))) 2) == (2 : Int) || (!D.getI (nthD (D.getL (nthD ls (Int.toNat i))) 3) == (0 : Int) || (!rright_v0 (D.getS (nthD (D.getL (nthD ls (Int.toNat i))) 1)) || !rref_v0 (D.getI (nthD (D.getL (nthD (D.getL (nthD ls (Int.toNat i))) 4)) 0)) (D.getI (nthD (D.getL (nthD (D.getL (nthD ls (Int.toNat i))) 4)) 1)))) else !(D.getB (nthD (D.getL (nthD ls (Int.toNat i))) 0) == false && (decide (Array.toList (ByteArray.data (D.getS (nthD (D.getL (nthD ls (Int.toNat i))) 1))) = []) && (D.getI (nthD (D.getL (nthD ls (Int.toNat i))) 2) == (0 : Int) && (D.getI (nthD (D.getL (nthD ls (Int.toNat i))) 3) == (0 : Int) && (D.getI (nthD (D.getL (nthD (D.getL (nthD ls (Int.toNat i))) 4)) 0) == (0 : Int) && (D.getI (nthD (D.getL (nthD (D.getL (nthD ls (Int.toNat i))) 4)) 1) == (0 : Int) && true) && true)))))) (.leaf (.inr (none, mkF 67 [(2, AV.dat (D.bool false))], [{ sh := Sh.agg [Sh.one, Sh.one, Sh.one, Sh.one, Sh.agg [Sh.one, Sh.one]], dyn := false, frz := false, v := AV.dat (D.agg [D.bool (D.getB (nthD (D.getL (nthD ls (Int.toNat i))) 0)), D.str (D.getS (nthD (D.getL (nthD ls (Int.toNat i))) 1)), D.int IntKind.i64 (D.getI (nthD (D.getL (nthD ls (Int.toNat i))) 2)), D.int IntKind.i64 (D.getI (nthD (D.getL (nthD ls (Int.toNat i))) 3)), D.agg [D.int IntKind.i64 (D.getI (nthD (D.getL (nthD (D.getL (nthD ls (Int.toNat i))) 4)) 0)), D.int IntKind.i64 (D.getI (nthD (D.getL (nthD (D.getL (nthD ls (Int.toNat i))) 4)) 1))]]) }]))) (.leaf (.inl (IntKind.wrap IntKind.i64 (i + (1 : Int)))))))) : T (Int ⊕ LOut)) (LK K N)
  generalize (D.getB (nthD (D.getL (nthD ls (Int.toNat i))) 0) == false && (decide (Array.toList (ByteArray.data (D.getS (nthD (D.getL (nthD ls (Int.toNat i))) 1))) = []) && (D.getI (nthD (D.getL (nthD ls (Int.toNat i))) 2) == (0 : Int) && (D.getI (nthD (D.getL (nthD ls (Int.toNat i))) 3) == (0 : Int) && (D.getI (nthD (D.getL (nthD (D.getL (nthD ls (Int.toNat i))) 4)) 0) == (0 : Int) && (D.getI (nthD (D.getL (nthD (D.getL (nthD ls (Int.toNat i))) 4)) 1) == (0 : Int) && true) && true))))) = z0
  generalize (D.getI (nthD (D.getL (nthD (D.getL (nthD ls (Int.toNat i))) 4)) 0) == (0 : Int) && (D.getI (nthD (D.getL (nthD (D.getL (nthD ls (Int.toNat i))) 4)) 1) == (0 : Int) && true)) = z1
  generalize (rref_v0 (D.getI (nthD (D.getL (nthD (D.getL (nthD ls (Int.toNat i))) 4)) 0)) (D.getI (nthD (D.getL (nthD (D.getL (nthD ls (Int.toNat i))) 4)) 1))) = z2
  generalize (okE (Ek.agg [Ek.bool, Ek.str, Ek.int IntKind.i64, Ek.int IntKind.i64, Ek.agg [Ek.int IntKind.i64, Ek.int IntKind.i64]]) (nthD ls (Int.toNat i))) = z3
  generalize (D.getI (nthD (D.getL (nthD ls (Int.toNat i))) 2) == (2 : Int)) = z4
  generalize (D.getI (nthD (D.getL (nthD ls (Int.toNat i))) 3) == (0 : Int)) = z5
  generalize (D.getI (nthD (D.getL (nthD ls (Int.toNat i))) 2) == (3 : Int)) = z6
  generalize (D.getI (nthD (D.getL (nthD ls (Int.toNat i))) 2) == (1 : Int)) = z7
  generalize (decide (i < (↑(List.length ls) : Int))) = z8
  generalize (decide ((0 : Int) ≤ i)) = z9
  generalize (decide (Int.toNat i < List.length ls)) = z10
  generalize (rright_pre (D.getS (nthD (D.getL (nthD ls (Int.toNat i))) 1))) = z11
  generalize (rnum_v0 (D.getI (nthD (D.getL (nthD ls (Int.toNat i))) 3))) = z12
  generalize (rright_v0 (D.getS (nthD (D.getL (nthD ls (Int.toNat i))) 1))) = z13
  generalize (D.getB (nthD (D.getL (nthD ls (Int.toNat i))) 0)) = z14
  cases z8 with
  | true =>
   cases z9 with
   | true =>
    cases z10 with
    | true =>
     cases z3 with
     | true =>
      cases z14 with
      | true =>
       cases z7 with
       | true =>
        cases z12 with
        | true =>
         cases z4 with
         | true =>
          cases z5 with
          | true =>
           cases z11 with
           | true =>
            cases z13 with
            | true =>
             cases z1 with
             | true =>
              exact hN _ _ _ (by kernel_rfl) (by kernel_rfl)
             | false =>
              cases z2 with
              | true =>
               exact hN _ _ _ (by kernel_rfl) (by kernel_rfl)
              | false =>
               rfl
            | false =>
             rfl
           | false =>
            rfl
          | false =>
           cases z11 with
           | true =>
            cases z13 with
            | true =>
             cases z1 with
             | true =>
              exact hN _ _ _ (by kernel_rfl) (by kernel_rfl)
             | false =>
              rfl
            | false =>
             rfl
           | false =>
            rfl
         | false =>
          cases z11 with
          | true =>
           cases z13 with
           | true =>
            cases z1 with
            | true =>
             exact hN _ _ _ (by kernel_rfl) (by kernel_rfl)
            | false =>
             rfl
           | false =>
            rfl
          | false =>
           rfl
        | false =>
         cases z4 with
         | true =>
          cases z5 with
          | true =>
           cases z11 with
           | true =>
            cases z13 with
            | true =>
             cases z2 with
             | true =>
              exact hN _ _ _ (by kernel_rfl) (by kernel_rfl)
             | false =>
              rfl
            | false =>
             rfl
           | false =>
            rfl
          | false =>
           cases z11 with
           | true =>
            cases z13 with
            | true =>
             rfl
            | false =>
             rfl
           | false =>
            rfl
         | false =>
          cases z11 with
          | true =>
           cases z13 with
           | true =>
            rfl
           | false =>
            rfl
          | false =>
           rfl
       | false =>
        cases z6 with
        | true =>
         cases z12 with
         | true =>
          cases z4 with
          | true =>
           cases z5 with
           | true =>
            cases z11 with
            | true =>
             cases z13 with
             | true =>
              cases z1 with
              | true =>
               exact hN _ _ _ (by kernel_rfl) (by kernel_rfl)
              | false =>
               cases z2 with
               | true =>
                exact hN _ _ _ (by kernel_rfl) (by kernel_rfl)
               | false =>
                rfl
             | false =>
              rfl
            | false =>
             rfl
           | false =>
            cases z11 with
            | true =>
             cases z13 with
             | true =>
              cases z1 with
              | true =>
               exact hN _ _ _ (by kernel_rfl) (by kernel_rfl)
              | false =>
               rfl
             | false =>
              rfl
            | false =>
             rfl
          | false =>
           cases z11 with
           | true =>
            cases z13 with
            | true =>
             cases z1 with
             | true =>
              exact hN _ _ _ (by kernel_rfl) (by kernel_rfl)
             | false =>
              rfl
            | false =>
             rfl
           | false =>
            rfl
         | false =>
          cases z4 with
          | true =>
           cases z5 with
           | true =>
            cases z11 with
            | true =>
             cases z13 with
             | true =>
              cases z2 with
              | true =>
               exact hN _ _ _ (by kernel_rfl) (by kernel_rfl)
              | false =>
               rfl
             | false =>
              rfl
            | false =>
             rfl
           | false =>
            cases z11 with
            | true =>
             cases z13 with
             | true =>
              rfl
             | false =>
              rfl
            | false =>
             rfl
          | false =>
           cases z11 with
           | true =>
            cases z13 with
            | true =>
             rfl
            | false =>
             rfl
           | false =>
            rfl
        | false =>
         cases z4 with
         | true =>
          cases z5 with
          | true =>
           cases z11 with
           | true =>
            cases z13 with
            | true =>
             cases z2 with
             | true =>
              exact hN _ _ _ (by kernel_rfl) (by kernel_rfl)
             | false =>
              rfl
            | false =>
             rfl
           | false =>
            rfl
          | false =>
           cases z11 with
           | true =>
            cases z13 with
            | true =>
             rfl
            | false =>
             rfl
           | false =>
            rfl
         | false =>
          cases z11 with
          | true =>
           cases z13 with
           | true =>
            rfl
           | false =>
            rfl
          | false =>
           rfl
      | false =>
       cases z0 with
       | true =>
        exact hN _ _ _ (by kernel_rfl) (by kernel_rfl)
       | false =>
        rfl
     | false =>
      rfl
    | false =>
     rfl
   | false =>
    rfl
  | false =>
   rfl
theorem rr13_enter (ls : List D) (i : Int) (fr : Frame') (hl : Nat.beq fr.length 67 = true) (g0 : fr.getD 0 .undef = AV.dat (D.slc (Sh.agg [Sh.one, Sh.one, Sh.one, Sh.one, Sh.agg [Sh.one, Sh.one]]) ls)) (g3 : fr.getD 3 .undef = AV.dat (D.int IntKind.i64 i)) : cleanF (liveAt Try.f13 0) 0 fr = rr13_fr ls i := by
  have e : liveAt Try.f13 0 = [0, 3] := by kernel_rfl
  rw [clean_mk (Nat.eq_of_beq_eq_true hl), e]
  show mkF 67 [(0, fr.getD 0 .undef), (3, fr.getD 3 .undef)] = _
  rw [g0, g3]
  kernel_rfl

def sm_fr (a b : List D) : Int → Frame' := fun i => mkF 26 [(0, .dat (.slc (.agg [.one, .one, .one, .one, .agg [.one, .one]]) a)), (1, .dat (.slc (.agg [.one, .one, .one, .one, .agg [.one, .one]]) b)), (5, .dat (.int .i64 i))]
def sm_st (_ _ : List D) : Int → Store := fun _ => []
def sm_step (a b : List D) : Int → T (Int ⊕ LOut) := fun i => 
  .chk (!decide (i < (↑(List.length a) : Int)) || decide ((0 : Int) ≤ i) && (decide (Int.toNat i < List.length a) && (okE (Ek.agg [Ek.bool, Ek.str, Ek.int IntKind.i64, Ek.int IntKind.i64, Ek.agg [Ek.int IntKind.i64, Ek.int IntKind.i64]]) (nthD a (Int.toNat i)) && (decide (Int.toNat i < List.length b) && okE (Ek.agg [Ek.bool, Ek.str, Ek.int IntKind.i64, Ek.int IntKind.i64, Ek.agg [Ek.int IntKind.i64, Ek.int IntKind.i64]]) (nthD b (Int.toNat i)))))) (
   .br (!decide (i < (↑(List.length a) : Int))) (.leaf (.inr ((some 0), mkF 26 [], []))) (
    .br (decide (i < (↑(List.length a) : Int)) && !(D.getB (nthD (D.getL (nthD a (Int.toNat i))) 0) == D.getB (nthD (D.getL (nthD b (Int.toNat i))) 0) && (decide (Array.toList (ByteArray.data (D.getS (nthD (D.getL (nthD a (Int.toNat i))) 1))) = Array.toList (ByteArray.data (D.getS (nthD (D.getL (nthD b (Int.toNat i))) 1)))) && (D.getI (nthD (D.getL (nthD a (Int.toNat i))) 2) == D.getI (nthD (D.getL (nthD b (Int.toNat i))) 2) && (D.getI (nthD (D.getL (nthD a (Int.toNat i))) 3) == D.getI (nthD (D.getL (nthD b (Int.toNat i))) 3) && (D.getI (nthD (D.getL (nthD (D.getL (nthD a (Int.toNat i))) 4)) 0) == D.getI (nthD (D.getL (nthD (D.getL (nthD b (Int.toNat i))) 4)) 0) && (D.getI (nthD (D.getL (nthD (D.getL (nthD a (Int.toNat i))) 4)) 1) == D.getI (nthD (D.getL (nthD (D.getL (nthD b (Int.toNat i))) 4)) 1) && true) && true)))))) (.leaf (.inr (none, mkF 26 [(4, AV.dat (D.bool false))], []))) (.leaf (.inl (IntKind.wrap IntKind.i64 (i + (1 : Int)))))))
theorem sm_round (lp : Loops) (a b : List D) (i : Int) (K : Kt) : oneRound (envOf tab [] [] lp []) Try.f12 0 (0) (mkF 26 [(0, .dat (.slc (.agg [.one, .one, .one, .one, .agg [.one, .one]]) a)), (1, .dat (.slc (.agg [.one, .one, .one, .one, .agg [.one, .one]]) b)), (5, .dat (.int .i64 i))]) ([]) K =
  (bif decide (i < (↑(List.length a) : Int)) then 
   (bif decide ((0 : Int) ≤ i) then 
    (bif decide (Int.toNat i < List.length a) then 
     (bif okE (Ek.agg [Ek.bool, Ek.str, Ek.int IntKind.i64, Ek.int IntKind.i64, Ek.agg [Ek.int IntKind.i64, Ek.int IntKind.i64]]) (nthD a (Int.toNat i)) then 
      (bif decide ((0 : Int) ≤ i) then 
       (bif decide (Int.toNat i < List.length b) then 
        (bif okE (Ek.agg [Ek.bool, Ek.str, Ek.int IntKind.i64, Ek.int IntKind.i64, Ek.agg [Ek.int IntKind.i64, Ek.int IntKind.i64]]) (nthD b (Int.toNat i)) then 
         (bif true != (D.getB (nthD (D.getL (nthD a (Int.toNat i))) 0) == D.getB (nthD (D.getL (nthD b (Int.toNat i))) 0) && (decide (Array.toList (ByteArray.data (D.getS (nthD (D.getL (nthD a (Int.toNat i))) 1))) = Array.toList (ByteArray.data (D.getS (nthD (D.getL (nthD b (Int.toNat i))) 1)))) && (D.getI (nthD (D.getL (nthD a (Int.toNat i))) 2) == D.getI (nthD (D.getL (nthD b (Int.toNat i))) 2) && (D.getI (nthD (D.getL (nthD a (Int.toNat i))) 3) == D.getI (nthD (D.getL (nthD b (Int.toNat i))) 3) && (D.getI (nthD (D.getL (nthD (D.getL (nthD a (Int.toNat i))) 4)) 0) == D.getI (nthD (D.getL (nthD (D.getL (nthD b (Int.toNat i))) 4)) 0) && (D.getI (nthD (D.getL (nthD (D.getL (nthD a (Int.toNat i))) 4)) 1) == D.getI (nthD (D.getL (nthD (D.getL (nthD b (Int.toNat i))) 4)) 1) && true) && true))))) then K (Exit.ret) (mkF 26 [(4, AV.dat (D.bool false))]) ([]) else K (Exit.normal) (mkF 26 [(0, AV.dat (D.slc (Sh.agg [Sh.one, Sh.one, Sh.one, Sh.one, Sh.agg [Sh.one, Sh.one]]) a)), (1, AV.dat (D.slc (Sh.agg [Sh.one, Sh.one, Sh.one, Sh.one, Sh.agg [Sh.one, Sh.one]]) b)), (5, AV.dat (D.int IntKind.i64 (IntKind.wrap IntKind.i64 (i + (1 : Int))))), (15, AV.dat (D.int IntKind.i64 i)), (16, AV.dat (D.int IntKind.i64 (IntKind.wrap IntKind.i64 (i + (1 : Int)))))]) ([])) else none) else none) else none) else none) else none) else none) else K (Exit.exit 0) (mkF 26 []) ([])) := by kernel_rfl
theorem sm_hr (lp : Loops) (a b : List D) : ∀ (sA : Int) (K : Kt) (N : Int → Option Res), (∀ sB fr' σ', cleanF (liveAt Try.f12 0) 0 fr' = sm_fr a b sB → trim (0) (sm_fr a b sB) σ' = sm_st a b sB → K .normal fr' σ' = N sB) →
    oneRound (envOf tab [] [] lp []) Try.f12 0 (0) (sm_fr a b sA) (sm_st a b sA) K = (sm_step a b sA).k (LK K N) := by
  intro i K N hN
  refine (sm_round lp a b i K).trans ?_
  show _ = T.k ((
  .chk (!decide (i < (↑(List.length a) : Int)) || decide ((0 : Int) ≤ i) && (decide (Int.toNat i < List.length a) && (okE (Ek.agg [Ek.bool, Ek.str, Ek.int IntKind.i64, Ek.int IntKind.i64, Ek.agg [Ek.int IntKind.i64, Ek.int IntKind.i64]]) (nthD a (Int.toNat i)) && (decide (Int.toNat i < List.length b) && okE (Ek.agg [Ek.bool, Ek.str, Ek.int IntKind.i64, Ek.int IntKind.i64, Ek.agg [Ek.int IntKind.i64, Ek.int IntKind.i64]]) (nthD b (Int.toNat i)))))) (
   .br (!decide (i < (↑(List.length a) : Int))) (.leaf (.inr ((some 0), mkF 26 [], []))) (
    .br (decide (i < (↑(List.length a) : Int)) && !(D.getB (nthD (D.getL (nthD a (Int.toNat i))) 0) == D.getB (nthD (D.getL (nthD b (Int.toNat i))) 0) && (decide (Array.toList (ByteArray.data (D.getS (nthD (D.getL (nthD a (Int.toNat i))) 1))) = Array.toList (ByteArray.data (D.getS (nthD (D.getL (nthD b (Int.toNat i))) 1)))) && (D.getI (nthD (D.getL (nthD a (Int.toNat i))) 2) == D.getI (nthD (D.getL (nthD b (Int.toNat i))) 2) && (D.getI (nthD (D.getL (nthD a (Int.toNat i))) 3) == D.getI (nthD (D.getL (nthD b (Int.toNat i))) 3) && (D.getI (nthD (D.getL (nthD (D.getL (nthD a (Int.toNat i))) 4)) 0) == D.getI (nthD (D.getL (nthD (D.getL (nthD b (Int.toNat i))) 4)) 0) && (D.getI (nthD (D.getL (nthD (D.getL (nthD a (Int.toNat i))) 4)) 1) == D.getI (nthD (D.getL (nthD (D.getL (nthD b (Int.toNat i))) 4)) 1) && true) && true)))))) (.leaf (.inr (none, mkF 26 [(4, AV.dat (D.bool false))], []))) (.leaf (.inl (IntKind.wrap IntKind.i64 (i + (1 : Int)))))))) : T (Int ⊕ LOut)) (LK K N)
  generalize (D.getB (nthD (D.getL (nthD a (Int.toNat i))) 0) == D.getB (nthD (D.getL (nthD b (Int.toNat i))) 0) && (decide (Array.toList (ByteArray.data (D.getS (nthD (D.getL (nthD a (Int.toNat i))) 1))) = Array.toList (ByteArray.data (D.getS (nthD (D.getL (nthD b (Int.toNat i))) 1)))) && (D.getI (nthD (D.getL (nthD a (Int.toNat i))) 2) == D.getI (nthD (D.getL (nthD b (Int.toNat i))) 2) && (D.getI (nthD (D.getL (nthD a (Int.toNat i))) 3) == D.getI (nthD (D.getL (nthD b (Int.toNat i))) 3) && (D.getI (nthD (D.getL (nthD (D.getL (nthD a (Int.toNat i))) 4)) 0) == D.getI (nthD (D.getL (nthD (D.getL (nthD b (Int.toNat i))) 4)) 0) && (D.getI (nthD (D.getL (nthD (D.getL (nthD a (Int.toNat i))) 4)) 1) == D.getI (nthD (D.getL (nthD (D.getL (nthD b (Int.toNat i))) 4)) 1) && true) && true))))) = z0
  generalize (okE (Ek.agg [Ek.bool, Ek.str, Ek.int IntKind.i64, Ek.int IntKind.i64, Ek.agg [Ek.int IntKind.i64, Ek.int IntKind.i64]]) (nthD a (Int.toNat i))) = z1
  generalize (okE (Ek.agg [Ek.bool, Ek.str, Ek.int IntKind.i64, Ek.int IntKind.i64, Ek.agg [Ek.int IntKind.i64, Ek.int IntKind.i64]]) (nthD b (Int.toNat i))) = z2
  generalize (decide (i < (↑(List.length a) : Int))) = z3
  generalize (decide ((0 : Int) ≤ i)) = z4
  generalize (decide (Int.toNat i < List.length a)) = z5
  generalize (decide (Int.toNat i < List.length b)) = z6
  cases z3 with
  | true =>
   cases z4 with
   | true =>
    cases z5 with
    | true =>
     cases z1 with
     | true =>
      cases z6 with
      | true =>
       cases z2 with
       | true =>
        cases z0 with
        | true =>
         exact hN _ _ _ (by kernel_rfl) (by kernel_rfl)
        | false =>
         rfl
       | false =>
        rfl
      | false =>
       rfl
     | false =>
      rfl
    | false =>
     rfl
   | false =>
    rfl
  | false =>
   rfl
theorem sm_enter (a b : List D) (i : Int) (fr : Frame') (hl : Nat.beq fr.length 26 = true) (g0 : fr.getD 0 .undef = AV.dat (D.slc (Sh.agg [Sh.one, Sh.one, Sh.one, Sh.one, Sh.agg [Sh.one, Sh.one]]) a)) (g1 : fr.getD 1 .undef = AV.dat (D.slc (Sh.agg [Sh.one, Sh.one, Sh.one, Sh.one, Sh.agg [Sh.one, Sh.one]]) b)) (g5 : fr.getD 5 .undef = AV.dat (D.int IntKind.i64 i)) : cleanF (liveAt Try.f12 0) 0 fr = sm_fr a b i := by
  have e : liveAt Try.f12 0 = [0, 1, 5] := by kernel_rfl
  rw [clean_mk (Nat.eq_of_beq_eq_true hl), e]
  show mkF 26 [(0, fr.getD 0 .undef), (1, fr.getD 1 .undef), (5, fr.getD 5 .undef)] = _
  rw [g0, g1, g5]
  kernel_rfl

def ints_fr (a b : List D) : Int → Frame' := fun i => mkF 26 [(0, .dat (.slc .one a)), (1, .dat (.slc .one b)), (5, .dat (.int .i64 i))]
def ints_st (_ _ : List D) : Int → Store := fun _ => []
def ints_step (a b : List D) : Int → T (Int ⊕ LOut) := fun i => 
  .chk (!decide (i < (↑(List.length a) : Int)) || decide ((0 : Int) ≤ i) && (decide (Int.toNat i < List.length a) && (okE (Ek.int IntKind.i64) (nthD a (Int.toNat i)) && (decide (Int.toNat i < List.length b) && okE (Ek.int IntKind.i64) (nthD b (Int.toNat i)))))) (
   .br (!decide (i < (↑(List.length a) : Int))) (.leaf (.inr ((some 0), mkF 26 [], []))) (
    .br (decide (i < (↑(List.length a) : Int)) && D.getI (nthD a (Int.toNat i)) != D.getI (nthD b (Int.toNat i))) (.leaf (.inr (none, mkF 26 [(4, AV.dat (D.bool false))], []))) (.leaf (.inl (IntKind.wrap IntKind.i64 (i + (1 : Int)))))))
theorem ints_round (lp : Loops) (a b : List D) (i : Int) (K : Kt) : oneRound (envOf tab [] [] lp []) Try.f25 0 (0) (mkF 26 [(0, .dat (.slc .one a)), (1, .dat (.slc .one b)), (5, .dat (.int .i64 i))]) ([]) K =
  (bif decide (i < (↑(List.length a) : Int)) then 
   (bif decide ((0 : Int) ≤ i) then 
    (bif decide (Int.toNat i < List.length a) then 
     (bif okE (Ek.int IntKind.i64) (nthD a (Int.toNat i)) then 
      (bif decide ((0 : Int) ≤ i) then 
       (bif decide (Int.toNat i < List.length b) then 
        (bif okE (Ek.int IntKind.i64) (nthD b (Int.toNat i)) then 
         (bif D.getI (nthD a (Int.toNat i)) != D.getI (nthD b (Int.toNat i)) then K (Exit.ret) (mkF 26 [(4, AV.dat (D.bool false))]) ([]) else K (Exit.normal) (mkF 26 [(0, AV.dat (D.slc Sh.one a)), (1, AV.dat (D.slc Sh.one b)), (5, AV.dat (D.int IntKind.i64 (IntKind.wrap IntKind.i64 (i + (1 : Int))))), (15, AV.dat (D.int IntKind.i64 i)), (16, AV.dat (D.int IntKind.i64 (IntKind.wrap IntKind.i64 (i + (1 : Int)))))]) ([])) else none) else none) else none) else none) else none) else none) else K (Exit.exit 0) (mkF 26 []) ([])) := by kernel_rfl
theorem ints_hr (lp : Loops) (a b : List D) : ∀ (sA : Int) (K : Kt) (N : Int → Option Res), (∀ sB fr' σ', cleanF (liveAt Try.f25 0) 0 fr' = ints_fr a b sB → trim (0) (ints_fr a b sB) σ' = ints_st a b sB → K .normal fr' σ' = N sB) →
    oneRound (envOf tab [] [] lp []) Try.f25 0 (0) (ints_fr a b sA) (ints_st a b sA) K = (ints_step a b sA).k (LK K N) := by
  intro i K N hN
  refine (ints_round lp a b i K).trans ?_
  show _ = T.k ((
  .chk (!decide (i < (↑(List.length a) : Int)) || decide ((0 : Int) ≤ i) && (decide (Int.toNat i < List.length a) && (okE (Ek.int IntKind.i64) (nthD a (Int.toNat i)) && (decide (Int.toNat i < List.length b) && okE (Ek.int IntKind.i64) (nthD b (Int.toNat i)))))) (
   .br (!decide (i < (↑(List.length a) : Int))) (.leaf (.inr ((some 0), mkF 26 [], []))) (
    .br (decide (i < (↑(List.length a) : Int)) && D.getI (nthD a (Int.toNat i)) != D.getI (nthD b (Int.toNat i))) (.leaf (.inr (none, mkF 26 [(4, AV.dat (D.bool false))], []))) (.leaf (.inl (IntKind.wrap IntKind.i64 (i + (1 : Int)))))))) : T (Int ⊕ LOut)) (LK K N)
  generalize (decide (i < (↑(List.length a) : Int))) = z0
  generalize (decide ((0 : Int) ≤ i)) = z1
  generalize (D.getI (nthD a (Int.toNat i)) != D.getI (nthD b (Int.toNat i))) = z2
  generalize (decide (Int.toNat i < List.length a)) = z3
  generalize (decide (Int.toNat i < List.length b)) = z4
  generalize (okE (Ek.int IntKind.i64) (nthD a (Int.toNat i))) = z5
  generalize (okE (Ek.int IntKind.i64) (nthD b (Int.toNat i))) = z6
  cases z0 with
  | true =>
   cases z1 with
   | true =>
    cases z3 with
    | true =>
     cases z5 with
     | true =>
      cases z4 with
      | true =>
       cases z6 with
       | true =>
        cases z2 with
        | true =>
         rfl
        | false =>
         exact hN _ _ _ (by kernel_rfl) (by kernel_rfl)
       | false =>
        rfl
      | false =>
       rfl
     | false =>
      rfl
    | false =>
     rfl
   | false =>
    rfl
  | false =>
   rfl
theorem ints_enter (a b : List D) (i : Int) (fr : Frame') (hl : Nat.beq fr.length 26 = true) (g0 : fr.getD 0 .undef = AV.dat (D.slc Sh.one a)) (g1 : fr.getD 1 .undef = AV.dat (D.slc Sh.one b)) (g5 : fr.getD 5 .undef = AV.dat (D.int IntKind.i64 i)) : cleanF (liveAt Try.f25 0) 0 fr = ints_fr a b i := by
  have e : liveAt Try.f25 0 = [0, 1, 5] := by kernel_rfl
  rw [clean_mk (Nat.eq_of_beq_eq_true hl), e]
  show mkF 26 [(0, fr.getD 0 .undef), (1, fr.getD 1 .undef), (5, fr.getD 5 .undef)] = _
  rw [g0, g1, g5]
  kernel_rfl

def rset_v0 (ls : List D) (i : Int) (u : Bool) (s : ByteArray) (k : Int) (w : Int) (a : Int) (b : Int) : List D := seg (List.set ls ((0 : Nat) + Int.toNat i) (D.agg [D.bool u, D.str s, D.int IntKind.i64 k, D.int IntKind.i64 w, D.agg [D.int IntKind.i64 a, D.int IntKind.i64 b]])) 0 ((0 : Nat) + List.length ls)
def rset_pre (ls : List D) (i : Int) (u : Bool) (s : ByteArray) (k : Int) (w : Int) (a : Int) (b : Int) : Bool := fits (Sh.agg [Sh.one, Sh.one, Sh.one, Sh.one, Sh.agg [Sh.one, Sh.one]]) ls && (decide (((0 : Nat) + List.length ls) * 56 ≤ 35184372088832) && (!List.isEmpty ls && (decide ((0 : Int) ≤ i) && (decide (i < (↑((0 : Nat) + List.length ls) : Int)) && (Nat.beq (List.length ls) ((0 : Nat) + List.length ls) && (decide ((0 : Nat) + Int.toNat i < List.length ls) && (okS (Sh.agg [Sh.one, Sh.one, Sh.one, Sh.one, Sh.agg [Sh.one, Sh.one]]) (nthD ls ((0 : Nat) + Int.toNat i)) && (Sh.eqb (Sh.agg [D.shape (nthD (D.getL (nthD ls ((0 : Nat) + Int.toNat i))) 0), D.shape (nthD (D.getL (nthD ls ((0 : Nat) + Int.toNat i))) 1), D.shape (nthD (D.getL (nthD ls ((0 : Nat) + Int.toNat i))) 2), D.shape (nthD (D.getL (nthD ls ((0 : Nat) + Int.toNat i))) 3), Sh.agg [D.shape (nthD (D.getL (nthD (D.getL (nthD ls ((0 : Nat) + Int.toNat i))) 4)) 0), D.shape (nthD (D.getL (nthD (D.getL (nthD ls ((0 : Nat) + Int.toNat i))) 4)) 1)]]) (Sh.agg [Sh.one, Sh.one, Sh.one, Sh.one, Sh.agg [Sh.one, Sh.one]]) && Nat.beq (List.length (List.set ls ((0 : Nat) + Int.toNat i) (D.agg [D.bool u, D.str s, D.int IntKind.i64 k, D.int IntKind.i64 w, D.agg [D.int IntKind.i64 a, D.int IntKind.i64 b]]))) ((0 : Nat) + List.length ls)))))))))
def C_rset : FunT := fun args σ => match args, σ with
  | [AV.dat (D.slc (Sh.agg [Sh.one, Sh.one, Sh.one, Sh.one, Sh.agg [Sh.one, Sh.one]]) ls), AV.dat (D.int IntKind.i64 i), AV.dat (D.agg [D.bool u, D.str s, D.int IntKind.i64 k, D.int IntKind.i64 w, D.agg [D.int IntKind.i64 a, D.int IntKind.i64 b]])], [] => .chk ((rset_pre ls i u s k w a b)) (.leaf ([AV.dat (D.slc (Sh.agg [Sh.one, Sh.one, Sh.one, Sh.one, Sh.agg [Sh.one, Sh.one]]) (rset_v0 ls i u s k w a b))], []))
  | _, _ => .fail
theorem rset_raw0 (ls : List D) (i : Int) (u : Bool) (s : ByteArray) (k w a b : Int) : runF (envOf tab [] [] [] []) true Try.f42 [.dat (.slc (.agg [.one, .one, .one, .one, .agg [.one, .one]]) ls), .dat (.int .i64 i), .dat (.agg [.bool u, .str s, .int .i64 k, .int .i64 w, .agg [.int .i64 a, .int .i64 b]])] [] =
  (bif fits (Sh.agg [Sh.one, Sh.one, Sh.one, Sh.one, Sh.agg [Sh.one, Sh.one]]) ls then 
   (bif decide (((0 : Nat) + List.length ls) * 56 ≤ 35184372088832) then 
    (bif List.isEmpty ls then 
     (bif decide ((0 : Int) ≤ i) then none else none) else 
     (bif decide ((0 : Int) ≤ i) then 
      (bif decide (i < (↑((0 : Nat) + List.length ls) : Int)) then 
       (bif Nat.beq (List.length ls) ((0 : Nat) + List.length ls) && true && true then 
        (bif decide ((0 : Nat) + Int.toNat i < List.length ls) then 
         (bif okS (Sh.agg [Sh.one, Sh.one, Sh.one, Sh.one, Sh.agg [Sh.one, Sh.one]]) (nthD ls ((0 : Nat) + Int.toNat i)) then 
          (bif Sh.eqb (Sh.agg [D.shape (nthD (D.getL (nthD ls ((0 : Nat) + Int.toNat i))) 0), D.shape (nthD (D.getL (nthD ls ((0 : Nat) + Int.toNat i))) 1), D.shape (nthD (D.getL (nthD ls ((0 : Nat) + Int.toNat i))) 2), D.shape (nthD (D.getL (nthD ls ((0 : Nat) + Int.toNat i))) 3), Sh.agg [D.shape (nthD (D.getL (nthD (D.getL (nthD ls ((0 : Nat) + Int.toNat i))) 4)) 0), D.shape (nthD (D.getL (nthD (D.getL (nthD ls ((0 : Nat) + Int.toNat i))) 4)) 1)]]) (Sh.agg [Sh.one, Sh.one, Sh.one, Sh.one, Sh.agg [Sh.one, Sh.one]]) then 
           (bif Nat.beq (List.length (List.set ls ((0 : Nat) + Int.toNat i) (D.agg [D.bool u, D.str s, D.int IntKind.i64 k, D.int IntKind.i64 w, D.agg [D.int IntKind.i64 a, D.int IntKind.i64 b]]))) ((0 : Nat) + List.length ls) then some ([AV.dat (D.slc (Sh.agg [Sh.one, Sh.one, Sh.one, Sh.one, Sh.agg [Sh.one, Sh.one]]) (seg (List.set ls ((0 : Nat) + Int.toNat i) (D.agg [D.bool u, D.str s, D.int IntKind.i64 k, D.int IntKind.i64 w, D.agg [D.int IntKind.i64 a, D.int IntKind.i64 b]])) 0 ((0 : Nat) + List.length ls)))], []) else none) else none) else none) else none) else none) else none) else none)) else none) else none) := by kernel_rfl
theorem rset_case0 (ls : List D) (i : Int) (u : Bool) (s : ByteArray) (k w a b : Int) : runF (envOf tab [] [] [] []) true Try.f42 [.dat (.slc (.agg [.one, .one, .one, .one, .agg [.one, .one]]) ls), .dat (.int .i64 i), .dat (.agg [.bool u, .str s, .int .i64 k, .int .i64 w, .agg [.int .i64 a, .int .i64 b]])] [] = FunT.run C_rset [.dat (.slc (.agg [.one, .one, .one, .one, .agg [.one, .one]]) ls), .dat (.int .i64 i), .dat (.agg [.bool u, .str s, .int .i64 k, .int .i64 w, .agg [.int .i64 a, .int .i64 b]])] [] := (rset_raw0 ls i u s k w a b).trans (by
  show _ = (cond (fits (Sh.agg [Sh.one, Sh.one, Sh.one, Sh.one, Sh.agg [Sh.one, Sh.one]]) ls && (decide (((0 : Nat) + List.length ls) * 56 ≤ 35184372088832) && (!List.isEmpty ls && (decide ((0 : Int) ≤ i) && (decide (i < (↑((0 : Nat) + List.length ls) : Int)) && (Nat.beq (List.length ls) ((0 : Nat) + List.length ls) && (decide ((0 : Nat) + Int.toNat i < List.length ls) && (okS (Sh.agg [Sh.one, Sh.one, Sh.one, Sh.one, Sh.agg [Sh.one, Sh.one]]) (nthD ls ((0 : Nat) + Int.toNat i)) && (Sh.eqb (Sh.agg [D.shape (nthD (D.getL (nthD ls ((0 : Nat) + Int.toNat i))) 0), D.shape (nthD (D.getL (nthD ls ((0 : Nat) + Int.toNat i))) 1), D.shape (nthD (D.getL (nthD ls ((0 : Nat) + Int.toNat i))) 2), D.shape (nthD (D.getL (nthD ls ((0 : Nat) + Int.toNat i))) 3), Sh.agg [D.shape (nthD (D.getL (nthD (D.getL (nthD ls ((0 : Nat) + Int.toNat i))) 4)) 0), D.shape (nthD (D.getL (nthD (D.getL (nthD ls ((0 : Nat) + Int.toNat i))) 4)) 1)]]) (Sh.agg [Sh.one, Sh.one, Sh.one, Sh.one, Sh.agg [Sh.one, Sh.one]]) && Nat.beq (List.length (List.set ls ((0 : Nat) + Int.toNat i) (D.agg [D.bool u, D.str s, D.int IntKind.i64 k, D.int IntKind.i64 w, D.agg [D.int IntKind.i64 a, D.int IntKind.i64 b]]))) ((0 : Nat) + List.length ls)))))))))) (some (([AV.dat (D.slc (Sh.agg [Sh.one, Sh.one, Sh.one, Sh.one, Sh.agg [Sh.one, Sh.one]]) (seg (List.set ls ((0 : Nat) + Int.toNat i) (D.agg [D.bool u, D.str s, D.int IntKind.i64 k, D.int IntKind.i64 w, D.agg [D.int IntKind.i64 a, D.int IntKind.i64 b]])) 0 ((0 : Nat) + List.length ls)))], []) : Res)) none)
  generalize (Sh.eqb (Sh.agg [D.shape (nthD (D.getL (nthD ls ((0 : Nat) + Int.toNat i))) 0), D.shape (nthD (D.getL (nthD ls ((0 : Nat) + Int.toNat i))) 1), D.shape (nthD (D.getL (nthD ls ((0 : Nat) + Int.toNat i))) 2), D.shape (nthD (D.getL (nthD ls ((0 : Nat) + Int.toNat i))) 3), Sh.agg [D.shape (nthD (D.getL (nthD (D.getL (nthD ls ((0 : Nat) + Int.toNat i))) 4)) 0), D.shape (nthD (D.getL (nthD (D.getL (nthD ls ((0 : Nat) + Int.toNat i))) 4)) 1)]]) (Sh.agg [Sh.one, Sh.one, Sh.one, Sh.one, Sh.agg [Sh.one, Sh.one]])) = z0
  generalize (Nat.beq (List.length (List.set ls ((0 : Nat) + Int.toNat i) (D.agg [D.bool u, D.str s, D.int IntKind.i64 k, D.int IntKind.i64 w, D.agg [D.int IntKind.i64 a, D.int IntKind.i64 b]]))) ((0 : Nat) + List.length ls)) = z1
  generalize (decide (((0 : Nat) + List.length ls) * 56 ≤ 35184372088832)) = z2
  generalize (decide (i < (↑((0 : Nat) + List.length ls) : Int))) = z3
  generalize (okS (Sh.agg [Sh.one, Sh.one, Sh.one, Sh.one, Sh.agg [Sh.one, Sh.one]]) (nthD ls ((0 : Nat) + Int.toNat i))) = z4
  generalize (decide ((0 : Nat) + Int.toNat i < List.length ls)) = z5
  generalize (fits (Sh.agg [Sh.one, Sh.one, Sh.one, Sh.one, Sh.agg [Sh.one, Sh.one]]) ls) = z6
  generalize (Nat.beq (List.length ls) ((0 : Nat) + List.length ls)) = z7
  generalize (decide ((0 : Int) ≤ i)) = z8
  generalize (List.isEmpty ls) = z9
  cases z6 with
  | true =>
   cases z2 with
   | true =>
    cases z9 with
    | true =>
     cases z8 with
     | true =>
      rfl
     | false =>
      rfl
    | false =>
     cases z8 with
     | true =>
      cases z3 with
      | true =>
       cases z7 with
       | true =>
        cases z5 with
        | true =>
         cases z4 with
         | true =>
          cases z0 with
          | true =>
           cases z1 with
           | true =>
            rfl
           | false =>
            rfl
          | false =>
           rfl
         | false =>
          rfl
        | false =>
         rfl
       | false =>
        rfl
      | false =>
       rfl
     | false =>
      rfl
   | false =>
    rfl
  | false =>
   rfl
  )
theorem crset_ok : FunOk Try.prog 42 (FunT.run C_rset) := by
  refine fun_ok (E := envOf tab [] [] [] []) (fz := true) (fn := Try.f42) (envOf_ok progOk (.nil _)) (by kernel_rfl) (by kernel_rfl) (loops_none (by kernel_rfl)) ?_
  intro args σ r h
  unfold C_rset at h
  split at h
  · exact (rset_case0 _ _ _ _ _ _ _ _).trans h
  · simp [T.run_fail] at h

def rinh_v0 (ls : List D) (i : Int) (w : Int) : Bool := decide ((0 : Int) ≤ i) && (decide (i < (↑(List.length ls) : Int)) && (D.getB (nthD (D.getL (nthD ls (Int.toNat i))) 0) && (D.getI (nthD (D.getL (nthD ls (Int.toNat i))) 2) == (1 : Int) && D.getI (nthD (D.getL (nthD ls (Int.toNat i))) 3) == w)))
def rinh_pre (ls : List D) (i : Int) : Bool := !decide ((0 : Int) ≤ i) || (!decide (i < (↑(List.length ls) : Int)) || decide (Int.toNat i < List.length ls) && okE (Ek.agg [Ek.bool, Ek.str, Ek.int IntKind.i64, Ek.int IntKind.i64, Ek.agg [Ek.int IntKind.i64, Ek.int IntKind.i64]]) (nthD ls (Int.toNat i)))
def C_rinh : FunT := fun args σ => match args, σ with
  | [AV.dat (D.slc (Sh.agg [Sh.one, Sh.one, Sh.one, Sh.one, Sh.agg [Sh.one, Sh.one]]) ls), AV.dat (D.int IntKind.i64 i), AV.dat (D.int IntKind.i64 w)], [] => .chk ((rinh_pre ls i)) (.leaf ([AV.dat (D.bool (rinh_v0 ls i w))], []))
  | _, _ => .fail
theorem rinh_raw0 (ls : List D) (i w : Int) : runF (envOf tab [] [] [] []) true Try.f46 [.dat (.slc (.agg [.one, .one, .one, .one, .agg [.one, .one]]) ls), .dat (.int .i64 i), .dat (.int .i64 w)] [] =
  (bif decide (i ≥ (0 : Int)) then 
   (bif decide (i < (↑(List.length ls) : Int)) then 
    (bif decide ((0 : Int) ≤ i) then 
     (bif decide (Int.toNat i < List.length ls) then 
      (bif okE (Ek.agg [Ek.bool, Ek.str, Ek.int IntKind.i64, Ek.int IntKind.i64, Ek.agg [Ek.int IntKind.i64, Ek.int IntKind.i64]]) (nthD ls (Int.toNat i)) then 
       (bif D.getB (nthD (D.getL (nthD ls (Int.toNat i))) 0) then 
        (bif decide ((0 : Int) ≤ i) then 
         (bif decide (Int.toNat i < List.length ls) then 
          (bif okE (Ek.agg [Ek.bool, Ek.str, Ek.int IntKind.i64, Ek.int IntKind.i64, Ek.agg [Ek.int IntKind.i64, Ek.int IntKind.i64]]) (nthD ls (Int.toNat i)) then 
           (bif D.getI (nthD (D.getL (nthD ls (Int.toNat i))) 2) == (1 : Int) then 
            (bif decide ((0 : Int) ≤ i) then 
             (bif decide (Int.toNat i < List.length ls) then 
              (bif okE (Ek.agg [Ek.bool, Ek.str, Ek.int IntKind.i64, Ek.int IntKind.i64, Ek.agg [Ek.int IntKind.i64, Ek.int IntKind.i64]]) (nthD ls (Int.toNat i)) then some ([AV.dat (D.bool (D.getI (nthD (D.getL (nthD ls (Int.toNat i))) 3) == w))], []) else none) else none) else none) else some ([AV.dat (D.bool false)], [])) else none) else none) else none) else some ([AV.dat (D.bool false)], [])) else none) else none) else none) else some ([AV.dat (D.bool false)], [])) else some ([AV.dat (D.bool false)], [])) := by kernel_rfl
theorem rinh_case0 (ls : List D) (i w : Int) : runF (envOf tab [] [] [] []) true Try.f46 [.dat (.slc (.agg [.one, .one, .one, .one, .agg [.one, .one]]) ls), .dat (.int .i64 i), .dat (.int .i64 w)] [] = FunT.run C_rinh [.dat (.slc (.agg [.one, .one, .one, .one, .agg [.one, .one]]) ls), .dat (.int .i64 i), .dat (.int .i64 w)] [] := (rinh_raw0 ls i w).trans (by
  show _ = (cond (!decide ((0 : Int) ≤ i) || (!decide (i < (↑(List.length ls) : Int)) || decide (Int.toNat i < List.length ls) && okE (Ek.agg [Ek.bool, Ek.str, Ek.int IntKind.i64, Ek.int IntKind.i64, Ek.agg [Ek.int IntKind.i64, Ek.int IntKind.i64]]) (nthD ls (Int.toNat i)))) (some (([AV.dat (D.bool (decide ((0 : Int) ≤ i) && (decide (i < (↑(List.length ls) : Int)) && (D.getB (nthD (D.getL (nthD ls (Int.toNat i))) 0) && (D.getI (nthD (D.getL (nthD ls (Int.toNat i))) 2) == (1 : Int) && D.getI (nthD (D.getL (nthD ls (Int.toNat i))) 3) == w)))))], []) : Res)) none)
  generalize (okE (Ek.agg [Ek.bool, Ek.str, Ek.int IntKind.i64, Ek.int IntKind.i64, Ek.agg [Ek.int IntKind.i64, Ek.int IntKind.i64]]) (nthD ls (Int.toNat i))) = z0
  generalize (D.getI (nthD (D.getL (nthD ls (Int.toNat i))) 2) == (1 : Int)) = z1
  generalize (decide (i < (↑(List.length ls) : Int))) = z2
  generalize (decide ((0 : Int) ≤ i)) = z3
  generalize (decide (Int.toNat i < List.length ls)) = z4
  generalize (D.getB (nthD (D.getL (nthD ls (Int.toNat i))) 0)) = z5
  cases z3 with
  | true =>
   cases z2 with
   | true =>
    cases z4 with
    | true =>
     cases z0 with
     | true =>
      cases z5 with
      | true =>
       cases z1 with
       | true =>
        rfl
       | false =>
        rfl
      | false =>
       rfl
     | false =>
      rfl
    | false =>
     rfl
   | false =>
    rfl
  | false =>
   rfl
  )
theorem crinh_ok : FunOk Try.prog 46 (FunT.run C_rinh) := by
  refine fun_ok (E := envOf tab [] [] [] []) (fz := true) (fn := Try.f46) (envOf_ok progOk (.nil _)) (by kernel_rfl) (by kernel_rfl) (loops_none (by kernel_rfl)) ?_
  intro args σ r h
  unfold C_rinh at h
  split at h
  · exact (rinh_case0 _ _ _).trans h
  · simp [T.run_fail] at h

abbrev SpD2 : Specs := (42, C_rset) :: (46, C_rinh) :: SpD1
theorem SpD2_ok : SpecsOk Try.prog SpD2 := .cons crset_ok (.cons crinh_ok SpD1_ok)
def rmk_fr (ls : List D) (s : ByteArray) (w : Int) : Int → Frame' := fun i => mkF 40 [(0, .dat (.slc (.agg [.one, .one, .one, .one, .agg [.one, .one]]) ls)), (1, .dat (.str s)), (2, .dat (.int .i64 w)), (9, .dat (.int .i64 i))]
def rmk_st (_ : List D) (_ : ByteArray) (_ : Int) : Int → Store := fun _ => []
def rmk_step (ls : List D) (s : ByteArray) (w : Int) : Int → T (Int ⊕ LOut) := fun i => 
  .chk (!decide (i < (↑(List.length ls) : Int)) || decide ((0 : Int) ≤ i) && (decide (Int.toNat i < List.length ls) && (okE (Ek.agg [Ek.bool, Ek.str, Ek.int IntKind.i64, Ek.int IntKind.i64, Ek.agg [Ek.int IntKind.i64, Ek.int IntKind.i64]]) (nthD ls (Int.toNat i)) && (D.getB (nthD (D.getL (nthD ls (Int.toNat i))) 0) || rset_pre ls i true s (1 : Int) w (0 : Int) (0 : Int))))) (
   .br (!decide (i < (↑(List.length ls) : Int))) (.leaf (.inr ((some 0), mkF 40 [], []))) (
    .br (decide (i < (↑(List.length ls) : Int)) && !D.getB (nthD (D.getL (nthD ls (Int.toNat i))) 0)) (.leaf (.inr (none, mkF 40 [(6, AV.dat (D.slc (Sh.agg [Sh.one, Sh.one, Sh.one, Sh.one, Sh.agg [Sh.one, Sh.one]]) (rset_v0 ls i true s (1 : Int) w (0 : Int) (0 : Int)))), (7, AV.dat (D.int IntKind.i64 i)), (8, AV.dat (D.int IntKind.i64 (0 : Int)))], []))) (.leaf (.inl (IntKind.wrap IntKind.i64 (i + (1 : Int)))))))
theorem rmk_round (lp : Loops) (ls : List D) (s : ByteArray) (w : Int) (i : Int) (K : Kt) : oneRound (envOf tab SpD2 [] lp []) Try.f11 0 (0) (mkF 40 [(0, .dat (.slc (.agg [.one, .one, .one, .one, .agg [.one, .one]]) ls)), (1, .dat (.str s)), (2, .dat (.int .i64 w)), (9, .dat (.int .i64 i))]) ([]) K =
  (bif decide (i < (↑(List.length ls) : Int)) then 
   (bif decide ((0 : Int) ≤ i) then 
    (bif decide (Int.toNat i < List.length ls) then 
     (bif okE (Ek.agg [Ek.bool, Ek.str, Ek.int IntKind.i64, Ek.int IntKind.i64, Ek.agg [Ek.int IntKind.i64, Ek.int IntKind.i64]]) (nthD ls (Int.toNat i)) then 
      (bif !D.getB (nthD (D.getL (nthD ls (Int.toNat i))) 0) then 
       (bif rset_pre ls i true s (1 : Int) w (0 : Int) (0 : Int) then K (Exit.ret) (mkF 40 [(6, AV.dat (D.slc (Sh.agg [Sh.one, Sh.one, Sh.one, Sh.one, Sh.agg [Sh.one, Sh.one]]) (rset_v0 ls i true s (1 : Int) w (0 : Int) (0 : Int)))), (7, AV.dat (D.int IntKind.i64 i)), (8, AV.dat (D.int IntKind.i64 (0 : Int)))]) ([]) else none) else K (Exit.normal) (mkF 40 [(0, AV.dat (D.slc (Sh.agg [Sh.one, Sh.one, Sh.one, Sh.one, Sh.agg [Sh.one, Sh.one]]) ls)), (1, AV.dat (D.str s)), (2, AV.dat (D.int IntKind.i64 w)), (9, AV.dat (D.int IntKind.i64 (IntKind.wrap IntKind.i64 (i + (1 : Int))))), (25, AV.dat (D.int IntKind.i64 i)), (26, AV.dat (D.int IntKind.i64 (IntKind.wrap IntKind.i64 (i + (1 : Int)))))]) ([])) else none) else none) else none) else K (Exit.exit 0) (mkF 40 []) ([])) := by kernel_rfl
theorem rmk_hr (lp : Loops) (ls : List D) (s : ByteArray) (w : Int) : ∀ (sA : Int) (K : Kt) (N : Int → Option Res), (∀ sB fr' σ', cleanF (liveAt Try.f11 0) 0 fr' = rmk_fr ls s w sB → trim (0) (rmk_fr ls s w sB) σ' = rmk_st ls s w sB → K .normal fr' σ' = N sB) →
    oneRound (envOf tab SpD2 [] lp []) Try.f11 0 (0) (rmk_fr ls s w sA) (rmk_st ls s w sA) K = (rmk_step ls s w sA).k (LK K N) := by
  intro i K N hN
  refine (rmk_round lp ls s w i K).trans ?_
  show _ = T.k ((
  .chk (!decide (i < (↑(List.length ls) : Int)) || decide ((0 : Int) ≤ i) && (decide (Int.toNat i < List.length ls) && (okE (Ek.agg [Ek.bool, Ek.str, Ek.int IntKind.i64, Ek.int IntKind.i64, Ek.agg [Ek.int IntKind.i64, Ek.int IntKind.i64]]) (nthD ls (Int.toNat i)) && (D.getB (nthD (D.getL (nthD ls (Int.toNat i))) 0) || rset_pre ls i true s (1 : Int) w (0 : Int) (0 : Int))))) (
   .br (!decide (i < (↑(List.length ls) : Int))) (.leaf (.inr ((some 0), mkF 40 [], []))) (
    .br (decide (i < (↑(List.length ls) : Int)) && !D.getB (nthD (D.getL (nthD ls (Int.toNat i))) 0)) (.leaf (.inr (none, mkF 40 [(6, AV.dat (D.slc (Sh.agg [Sh.one, Sh.one, Sh.one, Sh.one, Sh.agg [Sh.one, Sh.one]]) (rset_v0 ls i true s (1 : Int) w (0 : Int) (0 : Int)))), (7, AV.dat (D.int IntKind.i64 i)), (8, AV.dat (D.int IntKind.i64 (0 : Int)))], []))) (.leaf (.inl (IntKind.wrap IntKind.i64 (i + (1 : Int)))))))) : T (Int ⊕ LOut)) (LK K N)
  generalize (okE (Ek.agg [Ek.bool, Ek.str, Ek.int IntKind.i64, Ek.int IntKind.i64, Ek.agg [Ek.int IntKind.i64, Ek.int IntKind.i64]]) (nthD ls (Int.toNat i))) = z0
  generalize (rset_pre ls i true s (1 : Int) w (0 : Int) (0 : Int)) = z1
  generalize (decide (i < (↑(List.length ls) : Int))) = z2
  generalize (decide ((0 : Int) ≤ i)) = z3
  generalize (decide (Int.toNat i < List.length ls)) = z4
  generalize (D.getB (nthD (D.getL (nthD ls (Int.toNat i))) 0)) = z5
  cases z2 with
  | true =>
   cases z3 with
   | true =>
    cases z4 with
    | true =>
     cases z0 with
     | true =>
      cases z5 with
      | true =>
       exact hN _ _ _ (by kernel_rfl) (by kernel_rfl)
      | false =>
       cases z1 with
       | true =>
        rfl
       | false =>
        rfl
     | false =>
      rfl
    | false =>
     rfl
   | false =>
    rfl
  | false =>
   rfl
theorem rmk_enter (ls : List D) (s : ByteArray) (w : Int) (i : Int) (fr : Frame') (hl : Nat.beq fr.length 40 = true) (g0 : fr.getD 0 .undef = AV.dat (D.slc (Sh.agg [Sh.one, Sh.one, Sh.one, Sh.one, Sh.agg [Sh.one, Sh.one]]) ls)) (g1 : fr.getD 1 .undef = AV.dat (D.str s)) (g2 : fr.getD 2 .undef = AV.dat (D.int IntKind.i64 w)) (g9 : fr.getD 9 .undef = AV.dat (D.int IntKind.i64 i)) : cleanF (liveAt Try.f11 0) 0 fr = rmk_fr ls s w i := by
  have e : liveAt Try.f11 0 = [0, 1, 2, 9] := by kernel_rfl
  rw [clean_mk (Nat.eq_of_beq_eq_true hl), e]
  show mkF 40 [(0, fr.getD 0 .undef), (1, fr.getD 1 .undef), (2, fr.getD 2 .undef), (9, fr.getD 9 .undef)] = _
  rw [g0, g1, g2, g9]
  kernel_rfl

def rfr_fr (ls : List D) (t w : Int) : (Int × List D) → Frame' := fun ⟨i, out⟩ => mkF 63 [(0, .dat (.slc (.agg [.one, .one, .one, .one, .agg [.one, .one]]) ls)), (1, .dat (.int .i64 t)), (2, .dat (.int .i64 w)), (8, .dat (.slc (.agg [.one, .one, .one, .one, .agg [.one, .one]]) out)), (9, .dat (.int .i64 i))]
def rfr_st (_ : List D) (_ _ : Int) : (Int × List D) → Store := fun ⟨_, _⟩ => []
def rfr_step (ls : List D) (t w : Int) : (Int × List D) → T ((Int × List D) ⊕ LOut) := fun ⟨i, out⟩ => 
  .chk (!decide (i < (↑(List.length ls) : Int)) || decide ((0 : Int) ≤ i) && (decide (Int.toNat i < List.length ls) && (okE (Ek.agg [Ek.bool, Ek.str, Ek.int IntKind.i64, Ek.int IntKind.i64, Ek.agg [Ek.int IntKind.i64, Ek.int IntKind.i64]]) (nthD ls (Int.toNat i)) && (!D.getB (nthD (D.getL (nthD ls (Int.toNat i))) 0) || (!D.getI (nthD (D.getL (nthD ls (Int.toNat i))) 2) == (3 : Int) || (!D.getI (nthD (D.getL (nthD ls (Int.toNat i))) 3) == t || rset_pre out i true (D.getS (nthD (D.getL (nthD ls (Int.toNat i))) 1)) (1 : Int) w (0 : Int) (0 : Int))))))) (
   .br (!decide (i < (↑(List.length ls) : Int))) (.leaf (.inr ((some 0), mkF 63 [(8, AV.dat (D.slc (Sh.agg [Sh.one, Sh.one, Sh.one, Sh.one, Sh.agg [Sh.one, Sh.one]]) out))], []))) (.leaf (.inl ((IntKind.wrap IntKind.i64 (i + (1 : Int))), (bif D.getB (nthD (D.getL (nthD ls (Int.toNat i))) 0) then bif D.getI (nthD (D.getL (nthD ls (Int.toNat i))) 2) == (3 : Int) then bif D.getI (nthD (D.getL (nthD ls (Int.toNat i))) 3) == t then rset_v0 out i true (D.getS (nthD (D.getL (nthD ls (Int.toNat i))) 1)) (1 : Int) w (0 : Int) (0 : Int) else out else out else out)))))
theorem rfr_round (lp : Loops) (ls : List D) (t w : Int) (i : Int) (out : List D) (K : Kt) : oneRound (envOf tab SpD2 [] lp []) Try.f24 0 (0) (mkF 63 [(0, .dat (.slc (.agg [.one, .one, .one, .one, .agg [.one, .one]]) ls)), (1, .dat (.int .i64 t)), (2, .dat (.int .i64 w)), (8, .dat (.slc (.agg [.one, .one, .one, .one, .agg [.one, .one]]) out)), (9, .dat (.int .i64 i))]) ([]) K =
  (bif decide (i < (↑(List.length ls) : Int)) then 
   (bif decide ((0 : Int) ≤ i) then 
    (bif decide (Int.toNat i < List.length ls) then 
     (bif okE (Ek.agg [Ek.bool, Ek.str, Ek.int IntKind.i64, Ek.int IntKind.i64, Ek.agg [Ek.int IntKind.i64, Ek.int IntKind.i64]]) (nthD ls (Int.toNat i)) then 
      (bif D.getB (nthD (D.getL (nthD ls (Int.toNat i))) 0) then 
       (bif decide ((0 : Int) ≤ i) then 
        (bif decide (Int.toNat i < List.length ls) then 
         (bif okE (Ek.agg [Ek.bool, Ek.str, Ek.int IntKind.i64, Ek.int IntKind.i64, Ek.agg [Ek.int IntKind.i64, Ek.int IntKind.i64]]) (nthD ls (Int.toNat i)) then 
          (bif D.getI (nthD (D.getL (nthD ls (Int.toNat i))) 2) == (3 : Int) then 
           (bif decide ((0 : Int) ≤ i) then 
            (bif decide (Int.toNat i < List.length ls) then 
             (bif okE (Ek.agg [Ek.bool, Ek.str, Ek.int IntKind.i64, Ek.int IntKind.i64, Ek.agg [Ek.int IntKind.i64, Ek.int IntKind.i64]]) (nthD ls (Int.toNat i)) then 
              (bif D.getI (nthD (D.getL (nthD ls (Int.toNat i))) 3) == t then 
               (bif decide ((0 : Int) ≤ i) then 
                (bif decide (Int.toNat i < List.length ls) then 
                 (bif okE (Ek.agg [Ek.bool, Ek.str, Ek.int IntKind.i64, Ek.int IntKind.i64, Ek.agg [Ek.int IntKind.i64, Ek.int IntKind.i64]]) (nthD ls (Int.toNat i)) then 
                  (bif rset_pre out i true (D.getS (nthD (D.getL (nthD ls (Int.toNat i))) 1)) (1 : Int) w (0 : Int) (0 : Int) then K (Exit.normal) (mkF 63 [(0, AV.dat (D.slc (Sh.agg [Sh.one, Sh.one, Sh.one, Sh.one, Sh.agg [Sh.one, Sh.one]]) ls)), (1, AV.dat (D.int IntKind.i64 t)), (2, AV.dat (D.int IntKind.i64 w)), (8, AV.dat (D.slc (Sh.agg [Sh.one, Sh.one, Sh.one, Sh.one, Sh.agg [Sh.one, Sh.one]]) (rset_v0 out i true (D.getS (nthD (D.getL (nthD ls (Int.toNat i))) 1)) (1 : Int) w (0 : Int) (0 : Int)))), (9, AV.dat (D.int IntKind.i64 (IntKind.wrap IntKind.i64 (i + (1 : Int))))), (28, AV.dat (D.int IntKind.i64 i)), (29, AV.dat (D.int IntKind.i64 (IntKind.wrap IntKind.i64 (i + (1 : Int)))))]) ([]) else none) else none) else none) else none) else K (Exit.normal) (mkF 63 [(0, AV.dat (D.slc (Sh.agg [Sh.one, Sh.one, Sh.one, Sh.one, Sh.agg [Sh.one, Sh.one]]) ls)), (1, AV.dat (D.int IntKind.i64 t)), (2, AV.dat (D.int IntKind.i64 w)), (8, AV.dat (D.slc (Sh.agg [Sh.one, Sh.one, Sh.one, Sh.one, Sh.agg [Sh.one, Sh.one]]) out)), (9, AV.dat (D.int IntKind.i64 (IntKind.wrap IntKind.i64 (i + (1 : Int))))), (28, AV.dat (D.int IntKind.i64 i)), (29, AV.dat (D.int IntKind.i64 (IntKind.wrap IntKind.i64 (i + (1 : Int)))))]) ([])) else none) else none) else none) else K (Exit.normal) (mkF 63 [(0, AV.dat (D.slc (Sh.agg [Sh.one, Sh.one, Sh.one, Sh.one, Sh.agg [Sh.one, Sh.one]]) ls)), (1, AV.dat (D.int IntKind.i64 t)), (2, AV.dat (D.int IntKind.i64 w)), (8, AV.dat (D.slc (Sh.agg [Sh.one, Sh.one, Sh.one, Sh.one, Sh.agg [Sh.one, Sh.one]]) out)), (9, AV.dat (D.int IntKind.i64 (IntKind.wrap IntKind.i64 (i + (1 : Int))))), (28, AV.dat (D.int IntKind.i64 i)), (29, AV.dat (D.int IntKind.i64 (IntKind.wrap IntKind.i64 (i + (1 : Int)))))]) ([])) else none) else none) else none) else K (Exit.normal) (mkF 63 [(0, AV.dat (D.slc (Sh.agg [Sh.one, Sh.one, Sh.one, Sh.one, Sh.agg [Sh.one, Sh.one]]) ls)), (1, AV.dat (D.int IntKind.i64 t)), (2, AV.dat (D.int IntKind.i64 w)), (8, AV.dat (D.slc (Sh.agg [Sh.one, Sh.one, Sh.one, Sh.one, Sh.agg [Sh.one, Sh.one]]) out)), (9, AV.dat (D.int IntKind.i64 (IntKind.wrap IntKind.i64 (i + (1 : Int))))), (28, AV.dat (D.int IntKind.i64 i)), (29, AV.dat (D.int IntKind.i64 (IntKind.wrap IntKind.i64 (i + (1 : Int)))))]) ([])) else none) else none) else none) else K (Exit.exit 0) (mkF 63 [(8, AV.dat (D.slc (Sh.agg [Sh.one, Sh.one, Sh.one, Sh.one, Sh.agg [Sh.one, Sh.one]]) out))]) ([])) := by kernel_rfl
theorem rfr_hr (lp : Loops) (ls : List D) (t w : Int) : ∀ (sA : (Int × List D)) (K : Kt) (N : (Int × List D) → Option Res), (∀ sB fr' σ', cleanF (liveAt Try.f24 0) 0 fr' = rfr_fr ls t w sB → trim (0) (rfr_fr ls t w sB) σ' = rfr_st ls t w sB → K .normal fr' σ' = N sB) →
    oneRound (envOf tab SpD2 [] lp []) Try.f24 0 (0) (rfr_fr ls t w sA) (rfr_st ls t w sA) K = (rfr_step ls t w sA).k (LK K N) := by
  intro sA K N hN
  obtain ⟨i, out⟩ := sA
  refine (rfr_round lp ls t w i out K).trans ?_
  show _ = T.k ((
  .chk (!decide (i < (↑(List.length ls) : Int)) || decide ((0 : Int) ≤ i) && (decide (Int.toNat i < List.length ls) && (okE (Ek.agg [Ek.bool, Ek.str, Ek.int IntKind.i64, Ek.int IntKind.i64, Ek.agg [Ek.int IntKind.i64, Ek.int IntKind.i64]]) (nthD ls (Int.toNat i)) && (!D.getB (nthD (D.getL (nthD ls (Int.toNat i))) 0) || (!D.getI (nthD (D.getL (nthD ls (Int.toNat i))) 2) == (3 : Int) || (!D.getI (nthD (D.getL (nthD ls (Int.toNat i))) 3) == t || rset_pre out i true (D.getS (nthD (D.getL (nthD ls (Int.toNat i))) 1)) (1 : Int) w (0 : Int) (0 : Int))))))) (
   .br (!decide (i < (↑(List.length ls) : Int))) (.leaf (.inr ((some 0), mkF 63 [(8, AV.dat (D.slc (Sh.agg [Sh.one, Sh.one, Sh.one, Sh.one, Sh.agg [Sh.one, Sh.one]]) out))], []))) (.leaf (.inl ((IntKind.wrap IntKind.i64 (i + (1 : Int))), (bif D.getB (nthD (D.getL (nthD ls (Int.toNat i))) 0) then bif D.getI (nthD (D.getL (nthD ls (Int.toNat i))) 2) == (3 : Int) then bif D.getI (nthD (D.getL (nthD ls (Int.toNat i))) 3) == t then rset_v0 out i true (D.getS (nthD (D.getL (nthD ls (Int.toNat i))) 1)) (1 : Int) w (0 : Int) (0 : Int) else out else out else out)))))) : T ((Int × List D) ⊕ LOut)) (LK K N)
  generalize (okE (Ek.agg [Ek.bool, Ek.str, Ek.int IntKind.i64, Ek.int IntKind.i64, Ek.agg [Ek.int IntKind.i64, Ek.int IntKind.i64]]) (nthD ls (Int.toNat i))) = z0
  generalize (rset_pre out i true (D.getS (nthD (D.getL (nthD ls (Int.toNat i))) 1)) (1 : Int) w (0 : Int) (0 : Int)) = z1
  generalize (D.getI (nthD (D.getL (nthD ls (Int.toNat i))) 2) == (3 : Int)) = z2
  generalize (decide (i < (↑(List.length ls) : Int))) = z3
  generalize (D.getI (nthD (D.getL (nthD ls (Int.toNat i))) 3) == t) = z4
  generalize (decide ((0 : Int) ≤ i)) = z5
  generalize (decide (Int.toNat i < List.length ls)) = z6
  generalize (D.getB (nthD (D.getL (nthD ls (Int.toNat i))) 0)) = z7
  cases z3 with
  | true =>
   cases z5 with
   | true =>
    cases z6 with
    | true =>
     cases z0 with
     | true =>
      cases z7 with
      | true =>
       cases z2 with
       | true =>
        cases z4 with
        | true =>
         cases z1 with
         | true =>
          exact hN _ _ _ (by kernel_rfl) (by kernel_rfl)
         | false =>
          rfl
        | false =>
         exact hN _ _ _ (by kernel_rfl) (by kernel_rfl)
       | false =>
        exact hN _ _ _ (by kernel_rfl) (by kernel_rfl)
      | false =>
       exact hN _ _ _ (by kernel_rfl) (by kernel_rfl)
     | false =>
      rfl
    | false =>
     rfl
   | false =>
    rfl
  | false =>
   rfl
theorem rfr_enter (ls : List D) (t w : Int) (i : Int) (out : List D) (fr : Frame') (hl : Nat.beq fr.length 63 = true) (g0 : fr.getD 0 .undef = AV.dat (D.slc (Sh.agg [Sh.one, Sh.one, Sh.one, Sh.one, Sh.agg [Sh.one, Sh.one]]) ls)) (g1 : fr.getD 1 .undef = AV.dat (D.int IntKind.i64 t)) (g2 : fr.getD 2 .undef = AV.dat (D.int IntKind.i64 w)) (g8 : fr.getD 8 .undef = AV.dat (D.slc (Sh.agg [Sh.one, Sh.one, Sh.one, Sh.one, Sh.agg [Sh.one, Sh.one]]) out)) (g9 : fr.getD 9 .undef = AV.dat (D.int IntKind.i64 i)) : cleanF (liveAt Try.f24 0) 0 fr = rfr_fr ls t w (i, out) := by
  have e : liveAt Try.f24 0 = [1, 0, 2, 9, 8] := by kernel_rfl
  rw [clean_mk (Nat.eq_of_beq_eq_true hl), e]
  show mkF 63 [(1, fr.getD 1 .undef), (0, fr.getD 0 .undef), (2, fr.getD 2 .undef), (9, fr.getD 9 .undef), (8, fr.getD 8 .undef)] = _
  rw [g1, g0, g2, g9, g8]
  kernel_rfl

def rhe_fr (ls : List D) (w : Int) : (Int × Nat × Nat × List D) → Frame' := fun ⟨i, m, k, _⟩ => mkF 31 [(0, .dat (.slc (.agg [.one, .one, .one, .one, .agg [.one, .one]]) ls)), (1, .dat (.int .i64 w)), (5, .sref .one 0 m [] 0 k), (6, .dat (.int .i64 i))]
def rhe_st (_ : List D) (_ : Int) : (Int × Nat × Nat × List D) → Store := fun ⟨_, _, _, out⟩ => [mkDyn .one out]
def rhe_step (ls : List D) (w : Int) : (Int × Nat × Nat × List D) → T ((Int × Nat × Nat × List D) ⊕ LOut) := fun ⟨i, m, k, out⟩ => 
  .chk (!decide (i < (↑(List.length ls) : Int)) || rinh_pre ls i && (!rinh_v0 ls i w || decide ((0 : Int) ≤ i) && (decide (Int.toNat i < List.length ls) && (okE (Ek.agg [Ek.bool, Ek.str, Ek.int IntKind.i64, Ek.int IntKind.i64, Ek.agg [Ek.int IntKind.i64, Ek.int IntKind.i64]]) (nthD ls (Int.toNat i)) && (!(D.getI (nthD (D.getL (nthD (D.getL (nthD ls (Int.toNat i))) 4)) 0) == (0 : Int) && (D.getI (nthD (D.getL (nthD (D.getL (nthD ls (Int.toNat i))) 4)) 1) == (0 : Int) && true)) || Nat.beq (List.length out) m && true && true && true && true && Nat.beq k m && true && true && decide ((m + 1) * 8 ≤ 35184372088832)))))) (
   .br (!decide (i < (↑(List.length ls) : Int))) (.leaf (.inr ((some 0), mkF 31 [(5, AV.sref Sh.one 0 m [] 0 k)], [{ sh := Sh.arr Sh.one 0, dyn := true, frz := false, v := AV.dat (D.arr Sh.one out) }]))) (.leaf (.inl ((IntKind.wrap IntKind.i64 (i + (1 : Int))), (bif rinh_v0 ls i w then bif D.getI (nthD (D.getL (nthD (D.getL (nthD ls (Int.toNat i))) 4)) 0) == (0 : Int) && (D.getI (nthD (D.getL (nthD (D.getL (nthD ls (Int.toNat i))) 4)) 1) == (0 : Int) && true) then m + 1 else m else m), (bif rinh_v0 ls i w then bif D.getI (nthD (D.getL (nthD (D.getL (nthD ls (Int.toNat i))) 4)) 0) == (0 : Int) && (D.getI (nthD (D.getL (nthD (D.getL (nthD ls (Int.toNat i))) 4)) 1) == (0 : Int) && true) then m + 1 else k else k), (bif rinh_v0 ls i w then bif D.getI (nthD (D.getL (nthD (D.getL (nthD ls (Int.toNat i))) 4)) 0) == (0 : Int) && (D.getI (nthD (D.getL (nthD (D.getL (nthD ls (Int.toNat i))) 4)) 1) == (0 : Int) && true) then out ++ [D.int IntKind.i64 i] else out else out)))))
theorem rhe_round (lp : Loops) (ls : List D) (w : Int) (i : Int) (m k : Nat) (out : List D) (K : Kt) : oneRound (envOf tab SpD2 [] lp [(2, 0, [.own 5])]) Try.f26 0 (1) (mkF 31 [(0, .dat (.slc (.agg [.one, .one, .one, .one, .agg [.one, .one]]) ls)), (1, .dat (.int .i64 w)), (5, .sref .one 0 m [] 0 k), (6, .dat (.int .i64 i))]) ([mkDyn .one out]) K =
  (bif decide (i < (↑(List.length ls) : Int)) then 
   (bif rinh_pre ls i then 
    (bif rinh_v0 ls i w then 
     (bif decide ((0 : Int) ≤ i) then 
      (bif decide (Int.toNat i < List.length ls) then 
       (bif okE (Ek.agg [Ek.bool, Ek.str, Ek.int IntKind.i64, Ek.int IntKind.i64, Ek.agg [Ek.int IntKind.i64, Ek.int IntKind.i64]]) (nthD ls (Int.toNat i)) then 
        (bif false != (D.getI (nthD (D.getL (nthD (D.getL (nthD ls (Int.toNat i))) 4)) 0) == (0 : Int) && (D.getI (nthD (D.getL (nthD (D.getL (nthD ls (Int.toNat i))) 4)) 1) == (0 : Int) && true)) then 
         (bif Nat.beq (List.length out) m && true && true && true && true && Nat.beq k m && true && true && decide ((m + 1) * 8 ≤ 35184372088832) then K (Exit.normal) (mkF 31 [(0, AV.dat (D.slc (Sh.agg [Sh.one, Sh.one, Sh.one, Sh.one, Sh.agg [Sh.one, Sh.one]]) ls)), (1, AV.dat (D.int IntKind.i64 w)), (5, AV.sref Sh.one 0 (m + 1) [] 0 (m + 1)), (6, AV.dat (D.int IntKind.i64 (IntKind.wrap IntKind.i64 (i + (1 : Int))))), (11, AV.dat (D.int IntKind.i64 i)), (12, AV.dat (D.int IntKind.i64 (IntKind.wrap IntKind.i64 (i + (1 : Int)))))]) ([{ sh := Sh.arr Sh.one 0, dyn := true, frz := false, v := AV.dat (D.arr Sh.one (out ++ [D.int IntKind.i64 i])) }, { sh := Sh.arr Sh.one 0, dyn := true, frz := false, v := AV.dat (D.arr Sh.one [D.int IntKind.i64 i]) }]) else none) else K (Exit.normal) (mkF 31 [(0, AV.dat (D.slc (Sh.agg [Sh.one, Sh.one, Sh.one, Sh.one, Sh.agg [Sh.one, Sh.one]]) ls)), (1, AV.dat (D.int IntKind.i64 w)), (5, AV.sref Sh.one 0 m [] 0 k), (6, AV.dat (D.int IntKind.i64 (IntKind.wrap IntKind.i64 (i + (1 : Int))))), (11, AV.dat (D.int IntKind.i64 i)), (12, AV.dat (D.int IntKind.i64 (IntKind.wrap IntKind.i64 (i + (1 : Int)))))]) ([{ sh := Sh.arr Sh.one 0, dyn := true, frz := false, v := AV.dat (D.arr Sh.one out) }])) else none) else none) else none) else K (Exit.normal) (mkF 31 [(0, AV.dat (D.slc (Sh.agg [Sh.one, Sh.one, Sh.one, Sh.one, Sh.agg [Sh.one, Sh.one]]) ls)), (1, AV.dat (D.int IntKind.i64 w)), (5, AV.sref Sh.one 0 m [] 0 k), (6, AV.dat (D.int IntKind.i64 (IntKind.wrap IntKind.i64 (i + (1 : Int))))), (11, AV.dat (D.int IntKind.i64 i)), (12, AV.dat (D.int IntKind.i64 (IntKind.wrap IntKind.i64 (i + (1 : Int)))))]) ([{ sh := Sh.arr Sh.one 0, dyn := true, frz := false, v := AV.dat (D.arr Sh.one out) }])) else none) else K (Exit.exit 0) (mkF 31 [(5, AV.sref Sh.one 0 m [] 0 k)]) ([{ sh := Sh.arr Sh.one 0, dyn := true, frz := false, v := AV.dat (D.arr Sh.one out) }])) := by kernel_rfl
theorem rhe_hr (lp : Loops) (ls : List D) (w : Int) : ∀ (sA : (Int × Nat × Nat × List D)) (K : Kt) (N : (Int × Nat × Nat × List D) → Option Res), (∀ sB fr' σ', cleanF (liveAt Try.f26 0) 0 fr' = rhe_fr ls w sB → trim (1) (rhe_fr ls w sB) σ' = rhe_st ls w sB → K .normal fr' σ' = N sB) →
    oneRound (envOf tab SpD2 [] lp [(2, 0, [.own 5])]) Try.f26 0 (1) (rhe_fr ls w sA) (rhe_st ls w sA) K = (rhe_step ls w sA).k (LK K N) := by
  intro sA K N hN
  obtain ⟨i, m, k, out⟩ := sA
  refine (rhe_round lp ls w i m k out K).trans ?_
  show _ = T.k ((
  .chk (!decide (i < (↑(List.length ls) : Int)) || rinh_pre ls i && (!rinh_v0 ls i w || decide ((0 : Int) ≤ i) && (decide (Int.toNat i < List.length ls) && (okE (Ek.agg [Ek.bool, Ek.str, Ek.int IntKind.i64, Ek.int IntKind.i64, Ek.agg [Ek.int IntKind.i64, Ek.int IntKind.i64]]) (nthD ls (Int.toNat i)) && (!(D.getI (nthD (D.getL (nthD (D.getL (nthD ls (Int.toNat i))) 4)) 0) == (0 : Int) && (D.getI (nthD (D.getL (nthD (D.getL (nthD ls (Int.toNat i))) 4)) 1) == (0 : Int) && true)) || Nat.beq (List.length out) m && true && true && true && true && Nat.beq k m && true && true && decide ((m + 1) * 8 ≤ 35184372088832)))))) (
   .br (!decide (i < (↑(List.length ls) : Int))) (.leaf (.inr ((some 0), mkF 31 [(5, AV.sref Sh.one 0 m [] 0 k)], [{ sh := Sh.arr Sh.one 0, dyn := true, frz := false, v := AV.dat (D.arr Sh.one out) }]))) (.leaf (.inl ((IntKind.wrap IntKind.i64 (i + (1 : Int))), (bif rinh_v0 ls i w then bif D.getI (nthD (D.getL (nthD (D.getL (nthD ls (Int.toNat i))) 4)) 0) == (0 : Int) && (D.getI (nthD (D.getL (nthD (D.getL (nthD ls (Int.toNat i))) 4)) 1) == (0 : Int) && true) then m + 1 else m else m), (bif rinh_v0 ls i w then bif D.getI (nthD (D.getL (nthD (D.getL (nthD ls (Int.toNat i))) 4)) 0) == (0 : Int) && (D.getI (nthD (D.getL (nthD (D.getL (nthD ls (Int.toNat i))) 4)) 1) == (0 : Int) && true) then m + 1 else k else k), (bif rinh_v0 ls i w then bif D.getI (nthD (D.getL (nthD (D.getL (nthD ls (Int.toNat i))) 4)) 0) == (0 : Int) && (D.getI (nthD (D.getL (nthD (D.getL (nthD ls (Int.toNat i))) 4)) 1) == (0 : Int) && true) then out ++ [D.int IntKind.i64 i] else out else out)))))) : T ((Int × Nat × Nat × List D) ⊕ LOut)) (LK K N)
  generalize (Nat.beq (List.length out) m && true && true && true && true && Nat.beq k m && true && true && decide ((m + 1) * 8 ≤ 35184372088832)) = z0
  generalize (D.getI (nthD (D.getL (nthD (D.getL (nthD ls (Int.toNat i))) 4)) 0) == (0 : Int) && (D.getI (nthD (D.getL (nthD (D.getL (nthD ls (Int.toNat i))) 4)) 1) == (0 : Int) && true)) = z1
  generalize (okE (Ek.agg [Ek.bool, Ek.str, Ek.int IntKind.i64, Ek.int IntKind.i64, Ek.agg [Ek.int IntKind.i64, Ek.int IntKind.i64]]) (nthD ls (Int.toNat i))) = z2
  generalize (decide (i < (↑(List.length ls) : Int))) = z3
  generalize (decide ((0 : Int) ≤ i)) = z4
  generalize (decide (Int.toNat i < List.length ls)) = z5
  generalize (rinh_v0 ls i w) = z6
  generalize (rinh_pre ls i) = z7
  cases z3 with
  | true =>
   cases z7 with
   | true =>
    cases z6 with
    | true =>
     cases z4 with
     | true =>
      cases z5 with
      | true =>
       cases z2 with
       | true =>
        cases z1 with
        | true =>
         cases z0 with
         | true =>
          exact hN _ _ _ (by kernel_rfl) (by kernel_rfl)
         | false =>
          rfl
        | false =>
         exact hN _ _ _ (by kernel_rfl) (by kernel_rfl)
       | false =>
        rfl
      | false =>
       rfl
     | false =>
      rfl
    | false =>
     exact hN _ _ _ (by kernel_rfl) (by kernel_rfl)
   | false =>
    rfl
  | false =>
   rfl
theorem rhe_enter (ls : List D) (w : Int) (i : Int) (m k : Nat) (out : List D) (fr : Frame') (hl : Nat.beq fr.length 31 = true) (g0 : fr.getD 0 .undef = AV.dat (D.slc (Sh.agg [Sh.one, Sh.one, Sh.one, Sh.one, Sh.agg [Sh.one, Sh.one]]) ls)) (g1 : fr.getD 1 .undef = AV.dat (D.int IntKind.i64 w)) (g5 : fr.getD 5 .undef = AV.sref Sh.one 0 m [] 0 k) (g6 : fr.getD 6 .undef = AV.dat (D.int IntKind.i64 i)) : cleanF (liveAt Try.f26 0) 0 fr = rhe_fr ls w (i, m, k, out) := by
  have e : liveAt Try.f26 0 = [1, 0, 6, 5] := by kernel_rfl
  rw [clean_mk (Nat.eq_of_beq_eq_true hl), e]
  show mkF 31 [(1, fr.getD 1 .undef), (0, fr.getD 0 .undef), (6, fr.getD 6 .undef), (5, fr.getD 5 .undef)] = _
  rw [g1, g0, g6, g5]
  kernel_rfl

def rly_fr (ls : List D) (_ _ : Int) : (Int × Nat × Nat × List D) → Frame' := fun ⟨i, m, k, _⟩ => mkF 48 [(0, .dat (.slc (.agg [.one, .one, .one, .one, .agg [.one, .one]]) ls)), (3, .ptr (.agg [.one, .one]) 0 0 []), (5, .sref .one 1 m [] 0 k), (6, .dat (.int .i64 i))]
def rly_st (_ : List D) (a b : Int) : (Int × Nat × Nat × List D) → Store := fun ⟨_, _, _, out⟩ => [⟨.agg [.one, .one], false, false, .dat (.agg [.int .i64 a, .int .i64 b])⟩, mkDyn .one out]
def rly_step (ls : List D) (a b : Int) : (Int × Nat × Nat × List D) → T ((Int × Nat × Nat × List D) ⊕ LOut) := fun ⟨i, m, k, out⟩ => 
  .chk (!decide (i < (↑(List.length ls) : Int)) || decide ((0 : Int) ≤ i) && (decide (Int.toNat i < List.length ls) && (okE (Ek.agg [Ek.bool, Ek.str, Ek.int IntKind.i64, Ek.int IntKind.i64, Ek.agg [Ek.int IntKind.i64, Ek.int IntKind.i64]]) (nthD ls (Int.toNat i)) && (!D.getB (nthD (D.getL (nthD ls (Int.toNat i))) 0) || (!D.getI (nthD (D.getL (nthD ls (Int.toNat i))) 2) == (2 : Int) || (!(D.getI (nthD (D.getL (nthD (D.getL (nthD ls (Int.toNat i))) 4)) 0) == a && (D.getI (nthD (D.getL (nthD (D.getL (nthD ls (Int.toNat i))) 4)) 1) == b && true)) || (!D.getI (nthD (D.getL (nthD ls (Int.toNat i))) 3) == (0 : Int) || Nat.beq (List.length out) m && true && true && true && true && Nat.beq k m && true && true && decide ((m + 1) * 8 ≤ 35184372088832)))))))) (
   .br (!decide (i < (↑(List.length ls) : Int))) (.leaf (.inr ((some 0), mkF 48 [(5, AV.sref Sh.one 1 m [] 0 k)], [{ sh := Sh.agg [Sh.one, Sh.one], dyn := false, frz := false, v := AV.dat (D.agg [D.int IntKind.i64 a, D.int IntKind.i64 b]) }, { sh := Sh.arr Sh.one 0, dyn := true, frz := false, v := AV.dat (D.arr Sh.one out) }]))) (.leaf (.inl ((IntKind.wrap IntKind.i64 (i + (1 : Int))), (bif D.getB (nthD (D.getL (nthD ls (Int.toNat i))) 0) then bif D.getI (nthD (D.getL (nthD ls (Int.toNat i))) 2) == (2 : Int) then bif D.getI (nthD (D.getL (nthD (D.getL (nthD ls (Int.toNat i))) 4)) 0) == a && (D.getI (nthD (D.getL (nthD (D.getL (nthD ls (Int.toNat i))) 4)) 1) == b && true) then bif D.getI (nthD (D.getL (nthD ls (Int.toNat i))) 3) == (0 : Int) then m + 1 else m else m else m else m), (bif D.getB (nthD (D.getL (nthD ls (Int.toNat i))) 0) then bif D.getI (nthD (D.getL (nthD ls (Int.toNat i))) 2) == (2 : Int) then bif D.getI (nthD (D.getL (nthD (D.getL (nthD ls (Int.toNat i))) 4)) 0) == a && (D.getI (nthD (D.getL (nthD (D.getL (nthD ls (Int.toNat i))) 4)) 1) == b && true) then bif D.getI (nthD (D.getL (nthD ls (Int.toNat i))) 3) == (0 : Int) then m + 1 else k else k else k else k), (bif D.getB (nthD (D.getL (nthD ls (Int.toNat i))) 0) then bif D.getI (nthD (D.getL (nthD ls (Int.toNat i))) 2) == (2 : Int) then bif D.getI (nthD (D.getL (nthD (D.getL (nthD ls (Int.toNat i))) 4)) 0) == a && (D.getI (nthD (D.getL (nthD (D.getL (nthD ls (Int.toNat i))) 4)) 1) == b && true) then bif D.getI (nthD (D.getL (nthD ls (Int.toNat i))) 3) == (0 : Int) then out ++ [D.int IntKind.i64 i] else out else out else out else out)))))
theorem rly_round (lp : Loops) (ls : List D) (a b : Int) (i : Int) (m k : Nat) (out : List D) (K : Kt) : oneRound (envOf tab SpD2 [] lp [(2, 0, [.own 5])]) Try.f27 0 (2) (mkF 48 [(0, .dat (.slc (.agg [.one, .one, .one, .one, .agg [.one, .one]]) ls)), (3, .ptr (.agg [.one, .one]) 0 0 []), (5, .sref .one 1 m [] 0 k), (6, .dat (.int .i64 i))]) ([⟨.agg [.one, .one], false, false, .dat (.agg [.int .i64 a, .int .i64 b])⟩, mkDyn .one out]) K =
  (bif decide (i < (↑(List.length ls) : Int)) then 
   (bif decide ((0 : Int) ≤ i) then 
    (bif decide (Int.toNat i < List.length ls) then 
     (bif okE (Ek.agg [Ek.bool, Ek.str, Ek.int IntKind.i64, Ek.int IntKind.i64, Ek.agg [Ek.int IntKind.i64, Ek.int IntKind.i64]]) (nthD ls (Int.toNat i)) then 
      (bif D.getB (nthD (D.getL (nthD ls (Int.toNat i))) 0) then 
       (bif decide ((0 : Int) ≤ i) then 
        (bif decide (Int.toNat i < List.length ls) then 
         (bif okE (Ek.agg [Ek.bool, Ek.str, Ek.int IntKind.i64, Ek.int IntKind.i64, Ek.agg [Ek.int IntKind.i64, Ek.int IntKind.i64]]) (nthD ls (Int.toNat i)) then 
          (bif D.getI (nthD (D.getL (nthD ls (Int.toNat i))) 2) == (2 : Int) then 
           (bif decide ((0 : Int) ≤ i) then 
            (bif decide (Int.toNat i < List.length ls) then 
             (bif okE (Ek.agg [Ek.bool, Ek.str, Ek.int IntKind.i64, Ek.int IntKind.i64, Ek.agg [Ek.int IntKind.i64, Ek.int IntKind.i64]]) (nthD ls (Int.toNat i)) then 
              (bif false != (D.getI (nthD (D.getL (nthD (D.getL (nthD ls (Int.toNat i))) 4)) 0) == a && (D.getI (nthD (D.getL (nthD (D.getL (nthD ls (Int.toNat i))) 4)) 1) == b && true)) then 
               (bif decide ((0 : Int) ≤ i) then 
                (bif decide (Int.toNat i < List.length ls) then 
                 (bif okE (Ek.agg [Ek.bool, Ek.str, Ek.int IntKind.i64, Ek.int IntKind.i64, Ek.agg [Ek.int IntKind.i64, Ek.int IntKind.i64]]) (nthD ls (Int.toNat i)) then 
                  (bif D.getI (nthD (D.getL (nthD ls (Int.toNat i))) 3) == (0 : Int) then 
                   (bif Nat.beq (List.length out) m && true && true && true && true && Nat.beq k m && true && true && decide ((m + 1) * 8 ≤ 35184372088832) then K (Exit.normal) (mkF 48 [(0, AV.dat (D.slc (Sh.agg [Sh.one, Sh.one, Sh.one, Sh.one, Sh.agg [Sh.one, Sh.one]]) ls)), (3, AV.ptr (Sh.agg [Sh.one, Sh.one]) 0 0 []), (5, AV.sref Sh.one 1 (m + 1) [] 0 (m + 1)), (6, AV.dat (D.int IntKind.i64 (IntKind.wrap IntKind.i64 (i + (1 : Int))))), (11, AV.dat (D.int IntKind.i64 i)), (12, AV.dat (D.int IntKind.i64 (IntKind.wrap IntKind.i64 (i + (1 : Int)))))]) ([{ sh := Sh.agg [Sh.one, Sh.one], dyn := false, frz := false, v := AV.dat (D.agg [D.int IntKind.i64 a, D.int IntKind.i64 b]) }, { sh := Sh.arr Sh.one 0, dyn := true, frz := false, v := AV.dat (D.arr Sh.one (out ++ [D.int IntKind.i64 i])) }, { sh := Sh.arr Sh.one 0, dyn := true, frz := false, v := AV.dat (D.arr Sh.one [D.int IntKind.i64 i]) }]) else none) else K (Exit.normal) (mkF 48 [(0, AV.dat (D.slc (Sh.agg [Sh.one, Sh.one, Sh.one, Sh.one, Sh.agg [Sh.one, Sh.one]]) ls)), (3, AV.ptr (Sh.agg [Sh.one, Sh.one]) 0 0 []), (5, AV.sref Sh.one 1 m [] 0 k), (6, AV.dat (D.int IntKind.i64 (IntKind.wrap IntKind.i64 (i + (1 : Int))))), (11, AV.dat (D.int IntKind.i64 i)), (12, AV.dat (D.int IntKind.i64 (IntKind.wrap IntKind.i64 (i + (1 : Int)))))]) ([{ sh := Sh.agg [Sh.one, Sh.one], dyn := false, frz := false, v := AV.dat (D.agg [D.int IntKind.i64 a, D.int IntKind.i64 b]) }, { sh := Sh.arr Sh.one 0, dyn := true, frz := false, v := AV.dat (D.arr Sh.one out) }])) else none) else none) else none) else K (Exit.normal) (mkF 48 [(0, AV.dat (D.slc (Sh.agg [Sh.one, Sh.one, Sh.one, Sh.one, Sh.agg [Sh.one, Sh.one]]) ls)), (3, AV.ptr (Sh.agg [Sh.one, Sh.one]) 0 0 []), (5, AV.sref Sh.one 1 m [] 0 k), (6, AV.dat (D.int IntKind.i64 (IntKind.wrap IntKind.i64 (i + (1 : Int))))), (11, AV.dat (D.int IntKind.i64 i)), (12, AV.dat (D.int IntKind.i64 (IntKind.wrap IntKind.i64 (i + (1 : Int)))))]) ([{ sh := Sh.agg [Sh.one, Sh.one], dyn := false, frz := false, v := AV.dat (D.agg [D.int IntKind.i64 a, D.int IntKind.i64 b]) }, { sh := Sh.arr Sh.one 0, dyn := true, frz := false, v := AV.dat (D.arr Sh.one out) }])) else none) else none) else none) else K (Exit.normal) (mkF 48 [(0, AV.dat (D.slc (Sh.agg [Sh.one, Sh.one, Sh.one, Sh.one, Sh.agg [Sh.one, Sh.one]]) ls)), (3, AV.ptr (Sh.agg [Sh.one, Sh.one]) 0 0 []), (5, AV.sref Sh.one 1 m [] 0 k), (6, AV.dat (D.int IntKind.i64 (IntKind.wrap IntKind.i64 (i + (1 : Int))))), (11, AV.dat (D.int IntKind.i64 i)), (12, AV.dat (D.int IntKind.i64 (IntKind.wrap IntKind.i64 (i + (1 : Int)))))]) ([{ sh := Sh.agg [Sh.one, Sh.one], dyn := false, frz := false, v := AV.dat (D.agg [D.int IntKind.i64 a, D.int IntKind.i64 b]) }, { sh := Sh.arr Sh.one 0, dyn := true, frz := false, v := AV.dat (D.arr Sh.one out) }])) else none) else none) else none) else K (Exit.normal) (mkF 48 [(0, AV.dat (D.slc (Sh.agg [Sh.one, Sh.one, Sh.one, Sh.one, Sh.agg [Sh.one, Sh.one]]) ls)), (3, AV.ptr (Sh.agg [Sh.one, Sh.one]) 0 0 []), (5, AV.sref Sh.one 1 m [] 0 k), (6, AV.dat (D.int IntKind.i64 (IntKind.wrap IntKind.i64 (i + (1 : Int))))), (11, AV.dat (D.int IntKind.i64 i)), (12, AV.dat (D.int IntKind.i64 (IntKind.wrap IntKind.i64 (i + (1 : Int)))))]) ([{ sh := Sh.agg [Sh.one, Sh.one], dyn := false, frz := false, v := AV.dat (D.agg [D.int IntKind.i64 a, D.int IntKind.i64 b]) }, { sh := Sh.arr Sh.one 0, dyn := true, frz := false, v := AV.dat (D.arr Sh.one out) }])) else none) else none) else none) else K (Exit.exit 0) (mkF 48 [(5, AV.sref Sh.one 1 m [] 0 k)]) ([{ sh := Sh.agg [Sh.one, Sh.one], dyn := false, frz := false, v := AV.dat (D.agg [D.int IntKind.i64 a, D.int IntKind.i64 b]) }, { sh := Sh.arr Sh.one 0, dyn := true, frz := false, v := AV.dat (D.arr Sh.one out) }])) := by kernel_rfl
theorem rly_hr (lp : Loops) (ls : List D) (a b : Int) : ∀ (sA : (Int × Nat × Nat × List D)) (K : Kt) (N : (Int × Nat × Nat × List D) → Option Res), (∀ sB fr' σ', cleanF (liveAt Try.f27 0) 0 fr' = rly_fr ls a b sB → trim (2) (rly_fr ls a b sB) σ' = rly_st ls a b sB → K .normal fr' σ' = N sB) →
    oneRound (envOf tab SpD2 [] lp [(2, 0, [.own 5])]) Try.f27 0 (2) (rly_fr ls a b sA) (rly_st ls a b sA) K = (rly_step ls a b sA).k (LK K N) := by
  intro sA K N hN
  obtain ⟨i, m, k, out⟩ := sA
  refine (rly_round lp ls a b i m k out K).trans ?_
  show _ = T.k ((
  .chk (!decide (i < (↑(List.length ls) : Int)) || decide ((0 : Int) ≤ i) && (decide (Int.toNat i < List.length ls) && (okE (Ek.agg [Ek.bool, Ek.str, Ek.int IntKind.i64, Ek.int IntKind.i64, Ek.agg [Ek.int IntKind.i64, Ek.int IntKind.i64]]) (nthD ls (Int.toNat i)) && (!D.getB (nthD (D.getL (nthD ls (Int.toNat i))) 0) || (!D.getI (nthD (D.getL (nthD ls (Int.toNat i))) 2) == (2 : Int) || (!(D.getI (nthD (D.getL (nthD (D.getL (nthD ls (Int.toNat i))) 4)) 0) == a && (D.getI (nthD (D.getL (nthD (D.getL (nthD ls (Int.toNat i))) 4)) 1) == b && true)) || (!D.getI (nthD (D.getL (nthD ls (Int.toNat i))) 3) == (0 : Int) || Nat.beq (List.length out) m && true && true && true && true && Nat.beq k m && true && true && decide ((m + 1) * 8 ≤ 35184372088832)))))))) (
   .br (!decide (i < (↑(List.length ls) : Int))) (.leaf (.inr ((some 0), mkF 48 [(5, AV.sref Sh.one 1 m [] 0 k)], [{ sh := Sh.agg [Sh.one, Sh.one], dyn := false, frz := false, v := AV.dat (D.agg [D.int IntKind.i64 a, D.int IntKind.i64 b]) }, { sh := Sh.arr Sh.one 0, dyn := true, frz := false, v := AV.dat (D.arr Sh.one out) }]))) (.leaf (.inl ((IntKind.wrap IntKind.i64 (i + (1 : Int))), (bif D.getB (nthD (D.getL (nthD ls (Int.toNat i))) 0) then bif D.getI (nthD (D.getL (nthD ls (Int.toNat i))) 2) == (2 : Int) then bif D.getI (nthD (D.getL (nthD (D.getL (nthD ls (Int.toNat i))) 4)) 0) == a && (D.getI (nthD (D.getL (nthD (D.getL (nthD ls (Int.toNat i))) 4)) 1) == b && true) then bif D.getI (nthD (D.getL (nthD ls (Int.toNat i))) 3) == (0 : Int) then m + 1 else m else m else m else m), (bif D.getB (nthD (D.getL (nthD ls (Int.toNat i))) 0) then bif D.getI (nthD (D.getL (nthD ls (Int.toNat i))) 2) == (2 : Int) then bif D.getI (nthD (D.getL (nthD (D.getL (nthD ls (Int.toNat i))) 4)) 0) == a && (D.getI (nthD (D.getL (nthD (D.getL (nthD ls (Int.toNat i))) 4)) 1) == b && true) then bif D.getI (nthD (D.getL (nthD ls (Int.toNat i))) 3) == (0 : Int) then m + 1 else k else k else k else k), (bif D.getB (nthD (D.getL (nthD ls (Int.toNat i))) 0) then bif D.getI (nthD (D.getL (nthD ls (Int.toNat i))) 2) == (2 : Int) then bif D.getI (nthD (D.getL (nthD (D.getL (nthD ls (Int.toNat i))) 4)) 0) == a && (D.getI (nthD (D.getL (nthD (D.getL (nthD ls (Int.toNat i))) 4)) 1) == b && true) then bif D.getI (nthD (D.getL (nthD ls (Int.toNat i))) 3) == (0 : Int) then out ++ [D.int IntKind.i64 i] else out else out else out else out)))))) : T ((Int × Nat × Nat × List D) ⊕ LOut)) (LK K N)
  generalize (Nat.beq (List.length out) m && true && true && true && true && Nat.beq k m && true && true && decide ((m + 1) * 8 ≤ 35184372088832)) = z0
  generalize (D.getI (nthD (D.getL (nthD (D.getL (nthD ls (Int.toNat i))) 4)) 0) == a && (D.getI (nthD (D.getL (nthD (D.getL (nthD ls (Int.toNat i))) 4)) 1) == b && true)) = z1
  generalize (okE (Ek.agg [Ek.bool, Ek.str, Ek.int IntKind.i64, Ek.int IntKind.i64, Ek.agg [Ek.int IntKind.i64, Ek.int IntKind.i64]]) (nthD ls (Int.toNat i))) = z2
  generalize (D.getI (nthD (D.getL (nthD ls (Int.toNat i))) 2) == (2 : Int)) = z3
  generalize (D.getI (nthD (D.getL (nthD ls (Int.toNat i))) 3) == (0 : Int)) = z4
  generalize (decide (i < (↑(List.length ls) : Int))) = z5
  generalize (decide ((0 : Int) ≤ i)) = z6
  generalize (decide (Int.toNat i < List.length ls)) = z7
  generalize (D.getB (nthD (D.getL (nthD ls (Int.toNat i))) 0)) = z8
  cases z5 with
  | true =>
   cases z6 with
   | true =>
    cases z7 with
    | true =>
     cases z2 with
     | true =>
      cases z8 with
      | true =>
       cases z3 with
       | true =>
        cases z1 with
        | true =>
         cases z4 with
         | true =>
          cases z0 with
          | true =>
           exact hN _ _ _ (by kernel_rfl) (by kernel_rfl)
          | false =>
           rfl
         | false =>
          exact hN _ _ _ (by kernel_rfl) (by kernel_rfl)
        | false =>
         exact hN _ _ _ (by kernel_rfl) (by kernel_rfl)
       | false =>
        exact hN _ _ _ (by kernel_rfl) (by kernel_rfl)
      | false =>
       exact hN _ _ _ (by kernel_rfl) (by kernel_rfl)
     | false =>
      rfl
    | false =>
     rfl
   | false =>
    rfl
  | false =>
   rfl
theorem rly_enter (ls : List D) (a b : Int) (i : Int) (m k : Nat) (out : List D) (fr : Frame') (hl : Nat.beq fr.length 48 = true) (g0 : fr.getD 0 .undef = AV.dat (D.slc (Sh.agg [Sh.one, Sh.one, Sh.one, Sh.one, Sh.agg [Sh.one, Sh.one]]) ls)) (g3 : fr.getD 3 .undef = AV.ptr (Sh.agg [Sh.one, Sh.one]) 0 0 []) (g5 : fr.getD 5 .undef = AV.sref Sh.one 1 m [] 0 k) (g6 : fr.getD 6 .undef = AV.dat (D.int IntKind.i64 i)) : cleanF (liveAt Try.f27 0) 0 fr = rly_fr ls a b (i, m, k, out) := by
  have e : liveAt Try.f27 0 = [3, 0, 6, 5] := by kernel_rfl
  rw [clean_mk (Nat.eq_of_beq_eq_true hl), e]
  show mkF 48 [(3, fr.getD 3 .undef), (0, fr.getD 0 .undef), (6, fr.getD 6 .undef), (5, fr.getD 5 .undef)] = _
  rw [g3, g0, g6, g5]
  kernel_rfl

def pfr_fr (ls is : List D) (w n : Int) : (Int × Nat × Nat × List D) → Frame' := fun ⟨j, m, k, _⟩ => mkF 49 [(0, .dat (.slc (.agg [.one, .one, .one, .one, .agg [.one, .one]]) ls)), (2, .dat (.int .i64 w)), (8, .sref (.agg [.one, .one, .one, .one, .agg [.one, .one]]) 0 m [] 0 k), (31, .dat (.slc .one is)), (32, .dat (.int .i64 n)), (33, .dat (.int .i64 j))]
def pfr_st (_ _ : List D) (_ _ : Int) : (Int × Nat × Nat × List D) → Store := fun ⟨_, _, _, out⟩ => [mkDyn (.agg [.one, .one, .one, .one, .agg [.one, .one]]) out]
def pfr_step (ls is : List D) (w n : Int) : (Int × Nat × Nat × List D) → T ((Int × Nat × Nat × List D) ⊕ LOut) := fun ⟨j, m, k, out⟩ => 
  .chk (!decide (j < n) || decide ((0 : Int) ≤ j) && (decide (Int.toNat j < List.length is) && (okE (Ek.int IntKind.i64) (nthD is (Int.toNat j)) && (decide ((0 : Int) ≤ D.getI (nthD is (Int.toNat j))) && (decide (Int.toNat (D.getI (nthD is (Int.toNat j))) < List.length ls) && (okE (Ek.agg [Ek.bool, Ek.str, Ek.int IntKind.i64, Ek.int IntKind.i64, Ek.agg [Ek.int IntKind.i64, Ek.int IntKind.i64]]) (nthD ls (Int.toNat (D.getI (nthD is (Int.toNat j))))) && (toi_pre w (0 : Int) (0 : Int) && (decide (D.getI (nthD is (Int.toNat j)) < (↑k : Int)) && (Nat.beq (List.length out) m && (decide ((0 : Nat) + Int.toNat (D.getI (nthD is (Int.toNat j))) < List.length out) && (okS (Sh.agg [Sh.one, Sh.one, Sh.one, Sh.one, Sh.agg [Sh.one, Sh.one]]) (nthD out ((0 : Nat) + Int.toNat (D.getI (nthD is (Int.toNat j))))) && Sh.eqb (Sh.agg [D.shape (nthD (D.getL (nthD out ((0 : Nat) + Int.toNat (D.getI (nthD is (Int.toNat j)))))) 0), D.shape (nthD (D.getL (nthD out ((0 : Nat) + Int.toNat (D.getI (nthD is (Int.toNat j)))))) 1), D.shape (nthD (D.getL (nthD out ((0 : Nat) + Int.toNat (D.getI (nthD is (Int.toNat j)))))) 2), D.shape (nthD (D.getL (nthD out ((0 : Nat) + Int.toNat (D.getI (nthD is (Int.toNat j)))))) 3), Sh.agg [D.shape (nthD (D.getL (nthD (D.getL (nthD out ((0 : Nat) + Int.toNat (D.getI (nthD is (Int.toNat j)))))) 4)) 0), D.shape (nthD (D.getL (nthD (D.getL (nthD out ((0 : Nat) + Int.toNat (D.getI (nthD is (Int.toNat j)))))) 4)) 1)]]) (Sh.agg [Sh.one, Sh.one, Sh.one, Sh.one, Sh.agg [Sh.one, Sh.one]])))))))))))) (
   .br (!decide (j < n)) (.leaf (.inr ((some 0), mkF 49 [(8, AV.sref (Sh.agg [Sh.one, Sh.one, Sh.one, Sh.one, Sh.agg [Sh.one, Sh.one]]) 0 m [] 0 k)], [{ sh := Sh.arr (Sh.agg [Sh.one, Sh.one, Sh.one, Sh.one, Sh.agg [Sh.one, Sh.one]]) 0, dyn := true, frz := false, v := AV.dat (D.arr (Sh.agg [Sh.one, Sh.one, Sh.one, Sh.one, Sh.agg [Sh.one, Sh.one]]) out) }]))) (.leaf (.inl ((IntKind.wrap IntKind.i64 (j + (1 : Int))), (m), (k), (List.set out ((0 : Nat) + Int.toNat (D.getI (nthD is (Int.toNat j)))) (D.agg [D.bool (D.getB (nthD (D.getL (nthD ls (Int.toNat (D.getI (nthD is (Int.toNat j)))))) 0)), D.str (D.getS (nthD (D.getL (nthD ls (Int.toNat (D.getI (nthD is (Int.toNat j)))))) 1)), D.int IntKind.i64 (1 : Int), D.int IntKind.i64 w, D.agg [D.int IntKind.i64 (0 : Int), D.int IntKind.i64 (0 : Int)]]))))))
theorem pfr_round (lp : Loops) (ls is : List D) (w n : Int) (j : Int) (m k : Nat) (out : List D) (K : Kt) : oneRound (envOf tab SpI2 [] lp []) Try.f23 0 (1) (mkF 49 [(0, .dat (.slc (.agg [.one, .one, .one, .one, .agg [.one, .one]]) ls)), (2, .dat (.int .i64 w)), (8, .sref (.agg [.one, .one, .one, .one, .agg [.one, .one]]) 0 m [] 0 k), (31, .dat (.slc .one is)), (32, .dat (.int .i64 n)), (33, .dat (.int .i64 j))]) ([mkDyn (.agg [.one, .one, .one, .one, .agg [.one, .one]]) out]) K =
  (bif decide (j < n) then 
   (bif decide ((0 : Int) ≤ j) then 
    (bif decide (Int.toNat j < List.length is) then 
     (bif okE (Ek.int IntKind.i64) (nthD is (Int.toNat j)) then 
      (bif decide ((0 : Int) ≤ D.getI (nthD is (Int.toNat j))) then 
       (bif decide (Int.toNat (D.getI (nthD is (Int.toNat j))) < List.length ls) then 
        (bif okE (Ek.agg [Ek.bool, Ek.str, Ek.int IntKind.i64, Ek.int IntKind.i64, Ek.agg [Ek.int IntKind.i64, Ek.int IntKind.i64]]) (nthD ls (Int.toNat (D.getI (nthD is (Int.toNat j))))) then 
         (bif toi_pre w (0 : Int) (0 : Int) then 
          (bif decide ((0 : Int) ≤ D.getI (nthD is (Int.toNat j))) then 
           (bif decide (D.getI (nthD is (Int.toNat j)) < (↑k : Int)) then 
            (bif Nat.beq (List.length out) m && true && true then 
             (bif decide ((0 : Nat) + Int.toNat (D.getI (nthD is (Int.toNat j))) < List.length out) then 
              (bif okS (Sh.agg [Sh.one, Sh.one, Sh.one, Sh.one, Sh.agg [Sh.one, Sh.one]]) (nthD out ((0 : Nat) + Int.toNat (D.getI (nthD is (Int.toNat j))))) then 
               (bif Sh.eqb (Sh.agg [D.shape (nthD (D.getL (nthD out ((0 : Nat) + Int.toNat (D.getI (nthD is (Int.toNat j)))))) 0), D.shape (nthD (D.getL (nthD out ((0 : Nat) + Int.toNat (D.getI (nthD is (Int.toNat j)))))) 1), D.shape (nthD (D.getL (nthD out ((0 : Nat) + Int.toNat (D.getI (nthD is (Int.toNat j)))))) 2), D.shape (nthD (D.getL (nthD out ((0 : Nat) + Int.toNat (D.getI (nthD is (Int.toNat j)))))) 3), Sh.agg [D.shape (nthD (D.getL (nthD (D.getL (nthD out ((0 : Nat) + Int.toNat (D.getI (nthD is (Int.toNat j)))))) 4)) 0), D.shape (nthD (D.getL (nthD (D.getL (nthD out ((0 : Nat) + Int.toNat (D.getI (nthD is (Int.toNat j)))))) 4)) 1)]]) (Sh.agg [Sh.one, Sh.one, Sh.one, Sh.one, Sh.agg [Sh.one, Sh.one]]) then K (Exit.normal) (mkF 49 [(0, AV.dat (D.slc (Sh.agg [Sh.one, Sh.one, Sh.one, Sh.one, Sh.agg [Sh.one, Sh.one]]) ls)), (2, AV.dat (D.int IntKind.i64 w)), (8, AV.sref (Sh.agg [Sh.one, Sh.one, Sh.one, Sh.one, Sh.agg [Sh.one, Sh.one]]) 0 m [] 0 k), (31, AV.dat (D.slc Sh.one is)), (32, AV.dat (D.int IntKind.i64 n)), (33, AV.dat (D.int IntKind.i64 (IntKind.wrap IntKind.i64 (j + (1 : Int))))), (34, AV.dat (D.bool (decide (j < n)))), (47, AV.dat (D.int IntKind.i64 (IntKind.wrap IntKind.i64 (j + (1 : Int)))))]) ([{ sh := Sh.arr (Sh.agg [Sh.one, Sh.one, Sh.one, Sh.one, Sh.agg [Sh.one, Sh.one]]) 0, dyn := true, frz := false, v := AV.dat (D.arr (Sh.agg [Sh.one, Sh.one, Sh.one, Sh.one, Sh.agg [Sh.one, Sh.one]]) (List.set out ((0 : Nat) + Int.toNat (D.getI (nthD is (Int.toNat j)))) (D.agg [D.bool (D.getB (nthD (D.getL (nthD ls (Int.toNat (D.getI (nthD is (Int.toNat j)))))) 0)), D.str (D.getS (nthD (D.getL (nthD ls (Int.toNat (D.getI (nthD is (Int.toNat j)))))) 1)), D.int IntKind.i64 (1 : Int), D.int IntKind.i64 w, D.agg [D.int IntKind.i64 (0 : Int), D.int IntKind.i64 (0 : Int)]]))) }]) else none) else none) else none) else none) else none) else none) else none) else none) else none) else none) else none) else none) else none) else K (Exit.exit 0) (mkF 49 [(8, AV.sref (Sh.agg [Sh.one, Sh.one, Sh.one, Sh.one, Sh.agg [Sh.one, Sh.one]]) 0 m [] 0 k)]) ([{ sh := Sh.arr (Sh.agg [Sh.one, Sh.one, Sh.one, Sh.one, Sh.agg [Sh.one, Sh.one]]) 0, dyn := true, frz := false, v := AV.dat (D.arr (Sh.agg [Sh.one, Sh.one, Sh.one, Sh.one, Sh.agg [Sh.one, Sh.one]]) out) }])) := by kernel_rfl
theorem pfr_hr (lp : Loops) (ls is : List D) (w n : Int) : ∀ (sA : (Int × Nat × Nat × List D)) (K : Kt) (N : (Int × Nat × Nat × List D) → Option Res), (∀ sB fr' σ', cleanF (liveAt Try.f23 0) 0 fr' = pfr_fr ls is w n sB → trim (1) (pfr_fr ls is w n sB) σ' = pfr_st ls is w n sB → K .normal fr' σ' = N sB) →
    oneRound (envOf tab SpI2 [] lp []) Try.f23 0 (1) (pfr_fr ls is w n sA) (pfr_st ls is w n sA) K = (pfr_step ls is w n sA).k (LK K N) := by
  intro sA K N hN
  obtain ⟨j, m, k, out⟩ := sA
  refine (pfr_round lp ls is w n j m k out K).trans ?_
  show _ = T.k ((
  .chk (!decide (j < n) || decide ((0 : Int) ≤ j) && (decide (Int.toNat j < List.length is) && (okE (Ek.int IntKind.i64) (nthD is (Int.toNat j)) && (decide ((0 : Int) ≤ D.getI (nthD is (Int.toNat j))) && (decide (Int.toNat (D.getI (nthD is (Int.toNat j))) < List.length ls) && (okE (Ek.agg [Ek.bool, Ek.str, Ek.int IntKind.i64, Ek.int IntKind.i64, Ek.agg [Ek.int IntKind.i64, Ek.int IntKind.i64]]) (nthD ls (Int.toNat (D.getI (nthD is (Int.toNat j))))) && (toi_pre w (0 : Int) (0 : Int) && (decide (D.getI (nthD is (Int.toNat j)) < (↑k : Int)) && (Nat.beq (List.length out) m && (decide ((0 : Nat) + Int.toNat (D.getI (nthD is (Int.toNat j))) < List.length out) && (okS (Sh.agg [Sh.one, Sh.one, Sh.one, Sh.one, Sh.agg [Sh.one, Sh.one]]) (nthD out ((0 : Nat) + Int.toNat (D.getI (nthD is (Int.toNat j))))) && Sh.eqb (Sh.agg [D.shape (nthD (D.getL (nthD out ((0 : Nat) + Int.toNat (D.getI (nthD is (Int.toNat j)))))) 0), D.shape (nthD (D.getL (nthD out ((0 : Nat) + Int.toNat (D.getI (nthD is (Int.toNat j)))))) 1), D.shape (nthD (D.getL (nthD out ((0 : Nat) + Int.toNat (D.getI (nthD is (Int.toNat j)))))) 2), D.shape (nthD (D.getL (nthD out ((0 : Nat) + Int.toNat (D.getI (nthD is (Int.toNat j)))))) 3), Sh.agg [D.shape (nthD (D.getL (nthD (D.getL (nthD out ((0 : Nat) + Int.toNat (D.getI (nthD is (Int.toNat j)))))) 4)) 0), D.shape (nthD (D.getL (nthD (D.getL (nthD out ((0 : Nat) + Int.toNat (D.getI (nthD is (Int.toNat j)))))) 4)) 1)]]) (Sh.agg [Sh.one, Sh.one, Sh.one, Sh.one, Sh.agg [Sh.one, Sh.one]])))))))))))) (
   .br (!decide (j < n)) (.leaf (.inr ((some 0), mkF 49 [(8, AV.sref (Sh.agg [Sh.one, Sh.one, Sh.one, Sh.one, Sh.agg [Sh.one, Sh.one]]) 0 m [] 0 k)], [{ sh := Sh.arr (Sh.agg [Sh.one, Sh.one, Sh.one, Sh.one, Sh.agg [Sh.one, Sh.one]]) 0, dyn := true, frz := false, v := AV.dat (D.arr (Sh.agg [Sh.one, Sh.one, Sh.one, Sh.one, Sh.agg [Sh.one, Sh.one]]) out) }]))) (.leaf (.inl ((IntKind.wrap IntKind.i64 (j + (1 : Int))), (m), (k), (List.set out ((0 : Nat) + Int.toNat (D.getI (nthD is (Int.toNat j)))) (D.agg [D.bool (D.getB (nthD (D.getL (nthD ls (Int.toNat (D.getI (nthD is (Int.toNat j)))))) 0)), D.str (D.getS (nthD (D.getL (nthD ls (Int.toNat (D.getI (nthD is (Int.toNat j)))))) 1)), D.int IntKind.i64 (1 : Int), D.int IntKind.i64 w, D.agg [D.int IntKind.i64 (0 : Int), D.int IntKind.i64 (0 : Int)]]))))))) : T ((Int × Nat × Nat × List D) ⊕ LOut)) (LK K N)
  generalize (Sh.eqb (Sh.agg [D.shape (nthD (D.getL (nthD out ((0 : Nat) + Int.toNat (D.getI (nthD is (Int.toNat j)))))) 0), D.shape (nthD (D.getL (nthD out ((0 : Nat) + Int.toNat (D.getI (nthD is (Int.toNat j)))))) 1), D.shape (nthD (D.getL (nthD out ((0 : Nat) + Int.toNat (D.getI (nthD is (Int.toNat j)))))) 2), D.shape (nthD (D.getL (nthD out ((0 : Nat) + Int.toNat (D.getI (nthD is (Int.toNat j)))))) 3), Sh.agg [D.shape (nthD (D.getL (nthD (D.getL (nthD out ((0 : Nat) + Int.toNat (D.getI (nthD is (Int.toNat j)))))) 4)) 0), D.shape (nthD (D.getL (nthD (D.getL (nthD out ((0 : Nat) + Int.toNat (D.getI (nthD is (Int.toNat j)))))) 4)) 1)]]) (Sh.agg [Sh.one, Sh.one, Sh.one, Sh.one, Sh.agg [Sh.one, Sh.one]])) = z0
  generalize (decide ((0 : Nat) + Int.toNat (D.getI (nthD is (Int.toNat j))) < List.length out)) = z1
  generalize (okS (Sh.agg [Sh.one, Sh.one, Sh.one, Sh.one, Sh.agg [Sh.one, Sh.one]]) (nthD out ((0 : Nat) + Int.toNat (D.getI (nthD is (Int.toNat j)))))) = z2
  generalize (okE (Ek.agg [Ek.bool, Ek.str, Ek.int IntKind.i64, Ek.int IntKind.i64, Ek.agg [Ek.int IntKind.i64, Ek.int IntKind.i64]]) (nthD ls (Int.toNat (D.getI (nthD is (Int.toNat j)))))) = z3
  generalize (decide ((0 : Int) ≤ D.getI (nthD is (Int.toNat j)))) = z4
  generalize (decide (D.getI (nthD is (Int.toNat j)) < (↑k : Int))) = z5
  generalize (decide (Int.toNat (D.getI (nthD is (Int.toNat j))) < List.length ls)) = z6
  generalize (decide ((0 : Int) ≤ j)) = z7
  generalize (decide (Int.toNat j < List.length is)) = z8
  generalize (toi_pre w (0 : Int) (0 : Int)) = z9
  generalize (decide (j < n)) = z10
  generalize (okE (Ek.int IntKind.i64) (nthD is (Int.toNat j))) = z11
  generalize (Nat.beq (List.length out) m) = z12
  cases z10 with
  | true =>
   cases z7 with
   | true =>
    cases z8 with
    | true =>
     cases z11 with
     | true =>
      cases z4 with
      | true =>
       cases z6 with
       | true =>
        cases z3 with
        | true =>
         cases z9 with
         | true =>
          cases z5 with
          | true =>
           cases z12 with
           | true =>
            cases z1 with
            | true =>
             cases z2 with
             | true =>
              cases z0 with
              | true =>
               exact hN _ _ _ (by kernel_rfl) (by kernel_rfl)
              | false =>
               rfl
             | false =>
              rfl
            | false =>
             rfl
           | false =>
            rfl
          | false =>
           rfl
         | false =>
          rfl
        | false =>
         rfl
       | false =>
        rfl
      | false =>
       rfl
     | false =>
      rfl
    | false =>
     rfl
   | false =>
    rfl
  | false =>
   rfl
theorem pfr_enter (ls is : List D) (w n : Int) (j : Int) (m k : Nat) (out : List D) (fr : Frame') (hl : Nat.beq fr.length 49 = true) (g0 : fr.getD 0 .undef = AV.dat (D.slc (Sh.agg [Sh.one, Sh.one, Sh.one, Sh.one, Sh.agg [Sh.one, Sh.one]]) ls)) (g2 : fr.getD 2 .undef = AV.dat (D.int IntKind.i64 w)) (g8 : fr.getD 8 .undef = AV.sref (Sh.agg [Sh.one, Sh.one, Sh.one, Sh.one, Sh.agg [Sh.one, Sh.one]]) 0 m [] 0 k) (g31 : fr.getD 31 .undef = AV.dat (D.slc Sh.one is)) (g32 : fr.getD 32 .undef = AV.dat (D.int IntKind.i64 n)) (g33 : fr.getD 33 .undef = AV.dat (D.int IntKind.i64 j)) : cleanF (liveAt Try.f23 0) 0 fr = pfr_fr ls is w n (j, m, k, out) := by
  have e : liveAt Try.f23 0 = [32, 31, 0, 2, 33, 8] := by kernel_rfl
  rw [clean_mk (Nat.eq_of_beq_eq_true hl), e]
  show mkF 49 [(32, fr.getD 32 .undef), (31, fr.getD 31 .undef), (0, fr.getD 0 .undef), (2, fr.getD 2 .undef), (33, fr.getD 33 .undef), (8, fr.getD 8 .undef)] = _
  rw [g32, g31, g0, g2, g33, g8]
  kernel_rfl


end Go.Proofs.Ytnegedbjcjfndaa
