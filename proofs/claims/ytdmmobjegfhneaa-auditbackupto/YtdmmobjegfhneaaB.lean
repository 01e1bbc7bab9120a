/- Seat 20: the order of entries; which may be. -/
import Derived.Test.YtdmmobjegfhneaaA
namespace Go.Proofs.Ytdmmobjegfhneaa
open Go.AX
set_option maxRecDepth 100000
theorem loop_unrolled {P : Program} {E : Env} {rt : List Nat} {x : Code × List (Nat × List Nat)} (hx : Code.isRange x.1 = false) (h : (E.loop (loopKey x.1)).isNone = true) : LoopOk P E rt x := by
  unfold LoopOk
  rw [LoopOkN.plain hx]
  intro L hL
  rw [hL] at h
  exact absurd h (by simp)
def or_v0 (a : Int) (b : Int) : Int := bif a != 0 then a else bif b != 0 then b else 0
def C_or : FunT := fun args σ => match args, σ with
  | [AV.dat (D.slc Sh.one [D.int IntKind.i64 a, D.int IntKind.i64 b])], [] => .leaf ([AV.dat (D.int IntKind.i64 (or_v0 a b))], [])
  | _, _ => .fail
theorem or_raw0 (a b : Int) : runF (envOf tab [] [] [] [(888888, 3, [.cut 3])]) true Try.f37 [.dat (.slc .one [.int .i64 a, .int .i64 b])] [] =
  (bif a != 0 then some ([.dat (.int .i64 a)], []) else
   (bif b != 0 then some ([.dat (.int .i64 b)], []) else some ([.dat (.int .i64 0)], []))) := by kernel_rfl
theorem or_case0 (a b : Int) : runF (envOf tab [] [] [] [(888888, 3, [.cut 3])]) true Try.f37 [.dat (.slc .one [.int .i64 a, .int .i64 b])] [] = FunT.run C_or [.dat (.slc .one [.int .i64 a, .int .i64 b])] [] := (or_raw0 a b).trans (by
  show _ = (some (([.dat (.int .i64 (bif a != 0 then a else bif b != 0 then b else 0))], []) : Res))
  generalize (b != 0) = z0
  generalize (a != 0) = z1
  cases z1 with
  | true =>
   rfl
  | false =>
   cases z0 with
   | true =>
    rfl
   | false =>
    rfl
  )
theorem cor_ok : FunOk Try.prog 37 (FunT.run C_or) := by
  refine fun_ok (E := envOf tab [] [] [] [(888888, 3, [.cut 3])]) (fz := true) (fn := Try.f37) (envOf_ok progOk (.nil _)) (by kernel_rfl) (by kernel_rfl) (loops_one (by kernel_rfl) (loop_unrolled (by kernel_rfl) (by kernel_rfl))) ?_
  intro args σ r h
  unfold C_or at h
  split at h
  · exact (or_case0 _ _).trans h
  · simp [T.run_fail] at h
abbrev SpB0 : Specs := [(37, C_or), (38, C_cmpu), (39, C_cmpi)]
theorem SpB0_ok : SpecsOk Try.prog SpB0 := .cons cor_ok (.cons ccmpu_ok (.cons ccmpi_ok (.nil _)))
def ord_pre (li : Int) (li1 : Int) : Bool := D.eqb (D.int .i64 li) (D.int .i64 li) && D.eqb (D.int .i64 li1) (D.int .i64 li1)
def C_ord : FunT := fun args σ => match args, σ with
  | [AV.dat (D.agg [D.int IntKind.u64 r, D.int IntKind.i64 li, D.int IntKind.i64 _, D.int IntKind.i64 _, D.int IntKind.i64 _, D.int IntKind.i64 _, D.int IntKind.i64 _, D.int IntKind.u64 _, D.int IntKind.u64 _, D.int IntKind.i64 _]), AV.dat (D.agg [D.int IntKind.u64 r1, D.int IntKind.i64 li1, D.int IntKind.i64 _, D.int IntKind.i64 _, D.int IntKind.i64 _, D.int IntKind.i64 _, D.int IntKind.i64 _, D.int IntKind.u64 _, D.int IntKind.u64 _, D.int IntKind.i64 _])], [] => .chk ((ord_pre li li1)) (.leaf ([AV.dat (D.int IntKind.i64 (or_v0 (cmpu_v0 r r1) (cmpi_v0 li li1)))], []))
  | _, _ => .fail
theorem ord_raw0 (r li la wh si ba qu qt pr sl r1 li1 la1 wh1 si1 ba1 qu1 qt1 pr1 sl1 : Int) : runF (envOf tab SpB0 [] [] []) true Try.f26 [.dat (entD r li la wh si ba qu qt pr sl), .dat (entD r1 li1 la1 wh1 si1 ba1 qu1 qt1 pr1 sl1)] [] =
  (bif D.eqb (D.int .i64 li) (D.int .i64 li) && true then
   (bif D.eqb (D.int .i64 li1) (D.int .i64 li1) && true then some ([.dat (.int .i64 (or_v0 (cmpu_v0 r r1) (cmpi_v0 li li1)))], []) else none) else none) := by kernel_rfl
theorem ord_case0 (r li la wh si ba qu qt pr sl r1 li1 la1 wh1 si1 ba1 qu1 qt1 pr1 sl1 : Int) : runF (envOf tab SpB0 [] [] []) true Try.f26 [.dat (entD r li la wh si ba qu qt pr sl), .dat (entD r1 li1 la1 wh1 si1 ba1 qu1 qt1 pr1 sl1)] [] = FunT.run C_ord [.dat (entD r li la wh si ba qu qt pr sl), .dat (entD r1 li1 la1 wh1 si1 ba1 qu1 qt1 pr1 sl1)] [] := (ord_raw0 r li la wh si ba qu qt pr sl r1 li1 la1 wh1 si1 ba1 qu1 qt1 pr1 sl1).trans (by
  show _ = (cond (D.eqb (D.int .i64 li) (D.int .i64 li) && D.eqb (D.int .i64 li1) (D.int .i64 li1)) (some (([.dat (.int .i64 (or_v0 (cmpu_v0 r r1) (cmpi_v0 li li1)))], []) : Res)) none)
  generalize (D.eqb (D.int .i64 li1) (D.int .i64 li1)) = z0
  generalize (D.eqb (D.int .i64 li) (D.int .i64 li)) = z1
  cases z1 with
  | true =>
   cases z0 with
   | true =>
    rfl
   | false =>
    rfl
  | false =>
   rfl
  )
theorem cord_ok : FunOk Try.prog 26 (FunT.run C_ord) := by
  refine fun_ok (E := envOf tab SpB0 [] [] []) (fz := true) (fn := Try.f26) (envOf_ok progOk SpB0_ok) (by kernel_rfl) (by kernel_rfl) (loops_none (by kernel_rfl)) ?_
  intro args σ r h
  unfold C_ord at h
  split at h
  · exact (ord_case0 _ _ _ _ _ _ _ _ _ _ _ _ _ _ _ _ _ _ _ _).trans h
  · simp [T.run_fail] at h
abbrev SpB1 : Specs := [(21, C_is), (22, C_need), (23, C_cr), (24, C_num), (25, C_rneed)]
theorem SpB1_ok : SpecsOk Try.prog SpB1 := .cons cis_ok (.cons cneed_ok (.cons ccr_ok (.cons cnum_ok (.cons crneed_ok (.nil _)))))
def may_v0 (r : Int) (li : Int) (la : Int) (wh : Int) (si : Int) (ba : Int) (qu : Int) (qt : Int) (pr : Int) (sl : Int) : Bool := !decide (4611686018427387904 < r) && (is_v0 li && (is_v0 la && (is_v0 wh && (is_v0 sl && bif si == 3 then false != (r == r && (li == li && (la == la && (wh == wh && (si == si && (ba == 0 && (qu == 0 && (qt == 0 && (pr == 0 && (sl == sl && true)))))))))) else need_v1 si qt pr == 0 && (sl == 0 && (ba != qu && (cr_v0 ba && cr_v0 qu)))))))
def C_may : FunT := fun args σ => match args, σ with
  | [AV.dat (D.agg [D.int IntKind.u64 r, D.int IntKind.i64 li, D.int IntKind.i64 la, D.int IntKind.i64 wh, D.int IntKind.i64 si, D.int IntKind.i64 ba, D.int IntKind.i64 qu, D.int IntKind.u64 qt, D.int IntKind.u64 pr, D.int IntKind.i64 sl])], [] => .leaf ([AV.dat (D.bool (may_v0 r li la wh si ba qu qt pr sl))], [])
  | _, _ => .fail
theorem may_raw0 (r li la wh si ba qu qt pr sl : Int) : runF (envOf tab SpB1 [] [] []) true Try.f9 [.dat (entD r li la wh si ba qu qt pr sl)] [] =
  (bif decide (r > 4611686018427387904) then some ([.dat (.bool false)], []) else
   (bif !is_v0 li then some ([.dat (.bool false)], []) else
    (bif !is_v0 la then some ([.dat (.bool false)], []) else
     (bif !is_v0 wh then some ([.dat (.bool false)], []) else
      (bif !is_v0 sl then some ([.dat (.bool false)], []) else
       (bif si == 3 then some ([.dat (.bool (false != (r == r && (li == li && (la == la && (wh == wh && (si == si && (ba == 0 && (qu == 0 && (qt == 0 && (pr == 0 && (sl == sl && true))))))))))))], []) else
        (bif need_v1 si qt pr == 0 then
         (bif sl == 0 then
          (bif ba != qu then
           (bif cr_v0 ba then some ([.dat (.bool (cr_v0 qu))], []) else some ([.dat (.bool false)], [])) else some ([.dat (.bool false)], [])) else some ([.dat (.bool false)], [])) else some ([.dat (.bool false)], [])))))))) := by kernel_rfl
theorem may_case0 (r li la wh si ba qu qt pr sl : Int) : runF (envOf tab SpB1 [] [] []) true Try.f9 [.dat (entD r li la wh si ba qu qt pr sl)] [] = FunT.run C_may [.dat (entD r li la wh si ba qu qt pr sl)] [] := (may_raw0 r li la wh si ba qu qt pr sl).trans (by
  show _ = (some (([.dat (.bool (!decide (4611686018427387904 < r) && (is_v0 li && (is_v0 la && (is_v0 wh && (is_v0 sl && bif si == 3 then false != (r == r && (li == li && (la == la && (wh == wh && (si == si && (ba == 0 && (qu == 0 && (qt == 0 && (pr == 0 && (sl == sl && true)))))))))) else need_v1 si qt pr == 0 && (sl == 0 && (ba != qu && (cr_v0 ba && cr_v0 qu)))))))))], []) : Res))
  generalize (decide (4611686018427387904 < r)) = z0
  generalize (need_v1 si qt pr == 0) = z1
  generalize (si == 3) = z2
  generalize (sl == 0) = z3
  generalize (ba != qu) = z4
  generalize (cr_v0 ba) = z5
  generalize (is_v0 li) = z6
  generalize (is_v0 la) = z7
  generalize (is_v0 wh) = z8
  generalize (is_v0 sl) = z9
  cases z0 with
  | true =>
   rfl
  | false =>
   cases z6 with
   | true =>
    cases z7 with
    | true =>
     cases z8 with
     | true =>
      cases z9 with
      | true =>
       cases z2 with
       | true =>
        rfl
       | false =>
        cases z1 with
        | true =>
         cases z3 with
         | true =>
          cases z4 with
          | true =>
           cases z5 with
           | true =>
            rfl
           | false =>
            rfl
          | false =>
           rfl
         | false =>
          rfl
        | false =>
         rfl
      | false =>
       rfl
     | false =>
      rfl
    | false =>
     rfl
   | false =>
    rfl
  )
theorem cmay_ok : FunOk Try.prog 9 (FunT.run C_may) := by
  refine fun_ok (E := envOf tab SpB1 [] [] []) (fz := true) (fn := Try.f9) (envOf_ok progOk SpB1_ok) (by kernel_rfl) (by kernel_rfl) (loops_none (by kernel_rfl)) ?_
  intro args σ r h
  unfold C_may at h
  split at h
  · exact (may_case0 _ _ _ _ _ _ _ _ _ _).trans h
  · simp [T.run_fail] at h
def rmay_v0 (r : Int) (li : Int) (la : Int) (wh : Int) (si : Int) (ba : Int) (qu : Int) (qt : Int) (pr : Int) (sl : Int) : Bool := !decide (4611686018427387904 < r) && (num_v0 li && (num_v0 la && (num_v0 wh && bif si == 3 then num_v0 sl && (ba == 0 && (qu == 0 && (qt == 0 && pr == 0))) else rneed_v1 si qt pr == 0 && (sl == 0 && (decide (0 ≤ ba) && (decide (ba < 4) && (decide (0 ≤ qu) && (decide (qu < 4) && ba != qu))))))))
def rmay_pre (r : Int) (li : Int) (la : Int) (wh : Int) (si : Int) (qt : Int) (pr : Int) : Bool := decide (4611686018427387904 < r) || (!num_v0 li || (!num_v0 la || (!num_v0 wh || (si == 3 || rneed_pre si qt pr))))
def C_rmay : FunT := fun args σ => match args, σ with
  | [AV.dat (D.agg [D.int IntKind.u64 r, D.int IntKind.i64 li, D.int IntKind.i64 la, D.int IntKind.i64 wh, D.int IntKind.i64 si, D.int IntKind.i64 ba, D.int IntKind.i64 qu, D.int IntKind.u64 qt, D.int IntKind.u64 pr, D.int IntKind.i64 sl])], [] => .chk ((rmay_pre r li la wh si qt pr)) (.leaf ([AV.dat (D.bool (rmay_v0 r li la wh si ba qu qt pr sl))], []))
  | _, _ => .fail
theorem rmay_raw0 (r li la wh si ba qu qt pr sl : Int) : runF (envOf tab SpB1 [] [] []) true Try.f10 [.dat (entD r li la wh si ba qu qt pr sl)] [] =
  (bif decide (r > 4611686018427387904) then some ([.dat (.bool false)], []) else
   (bif !num_v0 li then some ([.dat (.bool false)], []) else
    (bif !num_v0 la then some ([.dat (.bool false)], []) else
     (bif !num_v0 wh then some ([.dat (.bool false)], []) else
      (bif si == 3 then
       (bif num_v0 sl then
        (bif ba == 0 then
         (bif qu == 0 then
          (bif qt == 0 then some ([.dat (.bool (pr == 0))], []) else some ([.dat (.bool false)], [])) else some ([.dat (.bool false)], [])) else some ([.dat (.bool false)], [])) else some ([.dat (.bool false)], [])) else
       (bif rneed_pre si qt pr then
        (bif rneed_v1 si qt pr == 0 then
         (bif sl == 0 then
          (bif decide (ba ≥ 0) then
           (bif decide (ba < 4) then
            (bif decide (qu ≥ 0) then
             (bif decide (qu < 4) then some ([.dat (.bool (ba != qu))], []) else some ([.dat (.bool false)], [])) else some ([.dat (.bool false)], [])) else some ([.dat (.bool false)], [])) else some ([.dat (.bool false)], [])) else some ([.dat (.bool false)], [])) else some ([.dat (.bool false)], [])) else none)))))) := by kernel_rfl
theorem rmay_case0 (r li la wh si ba qu qt pr sl : Int) : runF (envOf tab SpB1 [] [] []) true Try.f10 [.dat (entD r li la wh si ba qu qt pr sl)] [] = FunT.run C_rmay [.dat (entD r li la wh si ba qu qt pr sl)] [] := (rmay_raw0 r li la wh si ba qu qt pr sl).trans (by
  show _ = (cond (decide (4611686018427387904 < r) || (!num_v0 li || (!num_v0 la || (!num_v0 wh || (si == 3 || rneed_pre si qt pr))))) (some (([.dat (.bool (!decide (4611686018427387904 < r) && (num_v0 li && (num_v0 la && (num_v0 wh && bif si == 3 then num_v0 sl && (ba == 0 && (qu == 0 && (qt == 0 && pr == 0))) else rneed_v1 si qt pr == 0 && (sl == 0 && (decide (0 ≤ ba) && (decide (ba < 4) && (decide (0 ≤ qu) && (decide (qu < 4) && ba != qu))))))))))], []) : Res)) none)
  generalize (decide (qu < 4)) = z0
  generalize (decide (0 ≤ ba)) = z1
  generalize (decide (4611686018427387904 < r)) = z2
  generalize (decide (0 ≤ qu)) = z3
  generalize (decide (ba < 4)) = z4
  generalize (rneed_v1 si qt pr == 0) = z5
  generalize (qt == 0) = z6
  generalize (ba == 0) = z7
  generalize (qu == 0) = z8
  generalize (si == 3) = z9
  generalize (sl == 0) = z10
  generalize (rneed_pre si qt pr) = z11
  generalize (num_v0 li) = z12
  generalize (num_v0 wh) = z13
  generalize (num_v0 la) = z14
  generalize (num_v0 sl) = z15
  cases z2 with
  | true =>
   rfl
  | false =>
   cases z12 with
   | true =>
    cases z14 with
    | true =>
     cases z13 with
     | true =>
      cases z9 with
      | true =>
       cases z15 with
       | true =>
        cases z7 with
        | true =>
         cases z8 with
         | true =>
          cases z6 with
          | true =>
           rfl
          | false =>
           rfl
         | false =>
          rfl
        | false =>
         rfl
       | false =>
        rfl
      | false =>
       cases z11 with
       | true =>
        cases z5 with
        | true =>
         cases z10 with
         | true =>
          cases z1 with
          | true =>
           cases z4 with
           | true =>
            cases z3 with
            | true =>
             cases z0 with
             | true =>
              rfl
             | false =>
              rfl
            | false =>
             rfl
           | false =>
            rfl
          | false =>
           rfl
         | false =>
          rfl
        | false =>
         rfl
       | false =>
        rfl
     | false =>
      rfl
    | false =>
     rfl
   | false =>
    rfl
  )
theorem crmay_ok : FunOk Try.prog 10 (FunT.run C_rmay) := by
  refine fun_ok (E := envOf tab SpB1 [] [] []) (fz := true) (fn := Try.f10) (envOf_ok progOk SpB1_ok) (by kernel_rfl) (by kernel_rfl) (loops_none (by kernel_rfl)) ?_
  intro args σ r h
  unfold C_rmay at h
  split at h
  · exact (rmay_case0 _ _ _ _ _ _ _ _ _ _).trans h
  · simp [T.run_fail] at h
end Go.Proofs.Ytdmmobjegfhneaa
