/- Seat 15: alive; RoomTells. -/
import Derived.Test.YtiegehdiffemlaaE
namespace Go.Proofs.Ytiegehdiffemlaa
open Go.AX
set_option maxRecDepth 100000

abbrev SpG : Specs := [(5, C_dig), (6, C_ddig), (8, C_rmsok), (9, C_drooms), (10, C_samem), (11, C_find), (12, C_link), (13, C_close), (14, C_exok), (19, C_ways)]
theorem SpG_ok : SpecsOk Try.prog SpG := .cons cdig_ok (.cons cddig_ok (.cons crmsok_ok (.cons cdrooms_ok (.cons csamem_ok (.cons cfind_ok (.cons clink_ok (.cons cclose_ok (.cons cexok_ok (.cons cways_ok (.nil _))))))))))
def C_alive : FunT := fun args σ => match args, σ with
  | [], [] => .leaf ([AV.dat (D.bool true)], [])
  | _, _ => .fail
theorem alive_raw0  : runF (envOf tab SpG [] [] []) true Try.f7 [] [] =some ([AV.dat (D.bool true)], []) := by kernel_rfl
theorem alive_case0  : runF (envOf tab SpG [] [] []) true Try.f7 [] [] = FunT.run C_alive [] [] := (alive_raw0).trans (by
  show _ = some (([AV.dat (D.bool true)], []) : Res)
  rfl
  )
theorem calive_ok : FunOk Try.prog 7 (FunT.run C_alive) := by
  refine fun_ok (E := envOf tab SpG [] [] []) (fz := true) (fn := Try.f7) (envOf_ok progOk SpG_ok) (by kernel_rfl) (by kernel_rfl) (loops_none (by kernel_rfl)) ?_
  intro args σ r h
  unfold C_alive at h
  split at h
  · exact (alive_case0).trans h
  · simp [T.run_fail] at h

abbrev SpH : Specs := (7, C_alive) :: SpG
theorem SpH_ok : SpecsOk Try.prog SpH := .cons calive_ok SpG_ok
def tells_v0 (ls : List D) (s : ByteArray) : Bool := bif List.isEmpty ls then rmsok_v0 ls == drooms_v0 ls && (samem_v0 (dig_v0 ls s) (ddig_v0 ls s) && (dig_v1 ls s == ddig_v1 ls s && (dig_v2 ls s == ddig_v2 ls s && samem_v0 ls []))) else rmsok_v0 ls == drooms_v0 ls && (samem_v0 (dig_v0 ls s) (ddig_v0 ls s) && (dig_v1 ls s == ddig_v1 ls s && (dig_v2 ls s == ddig_v2 ls s && samem_v0 ls (seg ls (0 : Nat) ((0 : Nat) + List.length ls)))))
def tells_pre (ls : List D) (s : ByteArray) : Bool := fits (Sh.agg [Sh.one, Sh.one]) ls && (decide (((0 : Nat) + List.length ls) * (24 : Nat) ≤ (35184372088832 : Nat)) && bif List.isEmpty ls then dig_pre ls s && (ddig_pre ls s && (im_okL ls && (okMs ls && (!rmsok_v0 ls == drooms_v0 ls || samem_pre (dig_v0 ls s) (ddig_v0 ls s) && (!samem_v0 (dig_v0 ls s) (ddig_v0 ls s) || (!dig_v1 ls s == ddig_v1 ls s || (!dig_v2 ls s == ddig_v2 ls s || samem_pre ls []))))))) else dig_pre ls s && (ddig_pre ls s && (im_okL ls && (okMs ls && (!rmsok_v0 ls == drooms_v0 ls || samem_pre (dig_v0 ls s) (ddig_v0 ls s) && (!samem_v0 (dig_v0 ls s) (ddig_v0 ls s) || (!dig_v1 ls s == ddig_v1 ls s || (!dig_v2 ls s == ddig_v2 ls s || Nat.beq (List.length ls) ((0 : Nat) + List.length ls) && samem_pre ls (seg ls (0 : Nat) ((0 : Nat) + List.length ls))))))))))
def C_tells : FunT := fun args σ => match args, σ with
  | [AV.dat (D.slc (Sh.agg [Sh.one, Sh.one]) ls), AV.dat (D.str s)], [] => .chk ((tells_pre ls s)) (.leaf ([AV.dat (D.bool (tells_v0 ls s))], []))
  | _, _ => .fail
theorem tells_raw0 (ls : List D) (s : ByteArray) : runF (envOf tab SpH [] [] []) true Try.f3 [.dat (.slc (.agg [.one, .one]) ls), .dat (.str s)] [] =
  (bif fits (Sh.agg [Sh.one, Sh.one]) ls then 
   (bif decide (((0 : Nat) + List.length ls) * (24 : Nat) ≤ (35184372088832 : Nat)) then 
    (bif List.isEmpty ls then 
     (bif dig_pre ls s then 
      (bif ddig_pre ls s then 
       (bif im_okL ls then 
        (bif okMs ls then 
         (bif (false != (rmsok_v0 ls == drooms_v0 ls)) == true then 
          (bif samem_pre (dig_v0 ls s) (ddig_v0 ls s) then 
           (bif false != (rmsok_v0 ls == drooms_v0 ls) then 
            (bif samem_v0 (dig_v0 ls s) (ddig_v0 ls s) == true then 
             (bif samem_v0 (dig_v0 ls s) (ddig_v0 ls s) then 
              (bif (dig_v1 ls s == ddig_v1 ls s) == true then 
               (bif dig_v1 ls s == ddig_v1 ls s then 
                (bif (dig_v2 ls s == ddig_v2 ls s) == true then 
                 (bif samem_pre ls [] then 
                  (bif dig_v2 ls s == ddig_v2 ls s then some ([AV.dat (D.bool (samem_v0 ls []))], []) else some ([AV.dat (D.bool false)], [])) else none) else 
                 (bif dig_v2 ls s == ddig_v2 ls s then none else some ([AV.dat (D.bool false)], []))) else some ([AV.dat (D.bool false)], [])) else 
               (bif dig_v1 ls s == ddig_v1 ls s then none else some ([AV.dat (D.bool false)], []))) else some ([AV.dat (D.bool false)], [])) else 
             (bif samem_v0 (dig_v0 ls s) (ddig_v0 ls s) then none else some ([AV.dat (D.bool false)], []))) else some ([AV.dat (D.bool false)], [])) else none) else 
          (bif false != (rmsok_v0 ls == drooms_v0 ls) then none else some ([AV.dat (D.bool false)], []))) else none) else none) else none) else none) else 
     (bif dig_pre ls s then 
      (bif ddig_pre ls s then 
       (bif im_okL ls then 
        (bif okMs ls then 
         (bif (false != (rmsok_v0 ls == drooms_v0 ls)) == true then 
          (bif samem_pre (dig_v0 ls s) (ddig_v0 ls s) then 
           (bif false != (rmsok_v0 ls == drooms_v0 ls) then 
            (bif samem_v0 (dig_v0 ls s) (ddig_v0 ls s) == true then 
             (bif samem_v0 (dig_v0 ls s) (ddig_v0 ls s) then 
              (bif (dig_v1 ls s == ddig_v1 ls s) == true then 
               (bif dig_v1 ls s == ddig_v1 ls s then 
                (bif (dig_v2 ls s == ddig_v2 ls s) == true then 
                 (bif Nat.beq (List.length ls) ((0 : Nat) + List.length ls) then 
                  (bif samem_pre ls (seg ls (0 : Nat) ((0 : Nat) + List.length ls)) then 
                   (bif dig_v2 ls s == ddig_v2 ls s then some ([AV.dat (D.bool (samem_v0 ls (seg ls (0 : Nat) ((0 : Nat) + List.length ls))))], []) else some ([AV.dat (D.bool false)], [])) else none) else none) else 
                 (bif dig_v2 ls s == ddig_v2 ls s then none else some ([AV.dat (D.bool false)], []))) else some ([AV.dat (D.bool false)], [])) else 
               (bif dig_v1 ls s == ddig_v1 ls s then none else some ([AV.dat (D.bool false)], []))) else some ([AV.dat (D.bool false)], [])) else 
             (bif samem_v0 (dig_v0 ls s) (ddig_v0 ls s) then none else some ([AV.dat (D.bool false)], []))) else some ([AV.dat (D.bool false)], [])) else none) else 
          (bif false != (rmsok_v0 ls == drooms_v0 ls) then none else some ([AV.dat (D.bool false)], []))) else none) else none) else none) else none)) else none) else none) := by kernel_rfl
theorem tells_case0 (ls : List D) (s : ByteArray) : runF (envOf tab SpH [] [] []) true Try.f3 [.dat (.slc (.agg [.one, .one]) ls), .dat (.str s)] [] = FunT.run C_tells [.dat (.slc (.agg [.one, .one]) ls), .dat (.str s)] [] := (tells_raw0 ls s).trans (by
  show _ = (cond (fits (Sh.agg [Sh.one, Sh.one]) ls && (decide (((0 : Nat) + List.length ls) * (24 : Nat) ≤ (35184372088832 : Nat)) && bif List.isEmpty ls then dig_pre ls s && (ddig_pre ls s && (im_okL ls && (okMs ls && (!rmsok_v0 ls == drooms_v0 ls || samem_pre (dig_v0 ls s) (ddig_v0 ls s) && (!samem_v0 (dig_v0 ls s) (ddig_v0 ls s) || (!dig_v1 ls s == ddig_v1 ls s || (!dig_v2 ls s == ddig_v2 ls s || samem_pre ls []))))))) else dig_pre ls s && (ddig_pre ls s && (im_okL ls && (okMs ls && (!rmsok_v0 ls == drooms_v0 ls || samem_pre (dig_v0 ls s) (ddig_v0 ls s) && (!samem_v0 (dig_v0 ls s) (ddig_v0 ls s) || (!dig_v1 ls s == ddig_v1 ls s || (!dig_v2 ls s == ddig_v2 ls s || Nat.beq (List.length ls) ((0 : Nat) + List.length ls) && samem_pre ls (seg ls (0 : Nat) ((0 : Nat) + List.length ls))))))))))) (some (([AV.dat (D.bool (bif List.isEmpty ls then rmsok_v0 ls == drooms_v0 ls && (samem_v0 (dig_v0 ls s) (ddig_v0 ls s) && (dig_v1 ls s == ddig_v1 ls s && (dig_v2 ls s == ddig_v2 ls s && samem_v0 ls []))) else rmsok_v0 ls == drooms_v0 ls && (samem_v0 (dig_v0 ls s) (ddig_v0 ls s) && (dig_v1 ls s == ddig_v1 ls s && (dig_v2 ls s == ddig_v2 ls s && samem_v0 ls (seg ls (0 : Nat) ((0 : Nat) + List.length ls)))))))], []) : Res)) none)
  generalize (fits (Sh.agg [Sh.one, Sh.one]) ls) = z0
  cases z0 with
  | true =>
   generalize (decide (((0 : Nat) + List.length ls) * (24 : Nat) ≤ (35184372088832 : Nat))) = z1
   cases z1 with
   | true =>
    generalize (List.isEmpty ls) = z2
    cases z2 with
    | true =>
     generalize (dig_pre ls s) = z3
     cases z3 with
     | true =>
      generalize (ddig_pre ls s) = z4
      cases z4 with
      | true =>
       generalize (im_okL ls) = z5
       cases z5 with
       | true =>
        generalize (okMs ls) = z6
        cases z6 with
        | true =>
         generalize (rmsok_v0 ls == drooms_v0 ls) = z7
         cases z7 with
         | true =>
          generalize (samem_pre (dig_v0 ls s) (ddig_v0 ls s)) = z8
          cases z8 with
          | true =>
           generalize (samem_v0 (dig_v0 ls s) (ddig_v0 ls s)) = z9
           cases z9 with
           | true =>
            generalize (dig_v1 ls s == ddig_v1 ls s) = z10
            cases z10 with
            | true =>
             generalize (dig_v2 ls s == ddig_v2 ls s) = z11
             cases z11 with
             | true =>
              generalize (samem_pre ls []) = z12
              cases z12 with
              | true =>
               rfl
              | false =>
               rfl
             | false =>
              rfl
            | false =>
             rfl
           | false =>
            rfl
          | false =>
           rfl
         | false =>
          rfl
        | false =>
         rfl
       | false =>
        rfl
      | false =>
       rfl
     | false =>
      rfl
    | false =>
     generalize (dig_pre ls s) = z3
     cases z3 with
     | true =>
      generalize (ddig_pre ls s) = z4
      cases z4 with
      | true =>
       generalize (im_okL ls) = z5
       cases z5 with
       | true =>
        generalize (okMs ls) = z6
        cases z6 with
        | true =>
         generalize (rmsok_v0 ls == drooms_v0 ls) = z7
         cases z7 with
         | true =>
          generalize (samem_pre (dig_v0 ls s) (ddig_v0 ls s)) = z8
          cases z8 with
          | true =>
           generalize (samem_v0 (dig_v0 ls s) (ddig_v0 ls s)) = z9
           cases z9 with
           | true =>
            generalize (dig_v1 ls s == ddig_v1 ls s) = z10
            cases z10 with
            | true =>
             generalize (dig_v2 ls s == ddig_v2 ls s) = z11
             cases z11 with
             | true =>
              generalize (Nat.beq (List.length ls) ((0 : Nat) + List.length ls)) = z12
              cases z12 with
              | true =>
               generalize (samem_pre ls (seg ls (0 : Nat) ((0 : Nat) + List.length ls))) = z13
               cases z13 with
               | true =>
                rfl
               | false =>
                rfl
              | false =>
               rfl
             | false =>
              rfl
            | false =>
             rfl
           | false =>
            rfl
          | false =>
           rfl
         | false =>
          rfl
        | false =>
         rfl
       | false =>
        rfl
      | false =>
       rfl
     | false =>
      rfl
   | false =>
    rfl
  | false =>
   rfl
  )
theorem ctells_ok : FunOk Try.prog 3 (FunT.run C_tells) := by
  refine fun_ok (E := envOf tab SpH [] [] []) (fz := true) (fn := Try.f3) (envOf_ok progOk SpH_ok) (by kernel_rfl) (by kernel_rfl) (loops_none (by kernel_rfl)) ?_
  intro args σ r h
  unfold C_tells at h
  split at h
  · exact (tells_case0 _ _).trans h
  · simp [T.run_fail] at h


end Go.Proofs.Ytiegehdiffemlaa
