/- Seat 16: what is done with items. -/
import Derived.Test.YtnegedbjcjfndaaB
namespace Go.Proofs.Ytnegedbjcjfndaa
open Go.AX
set_option maxRecDepth 100000

abbrev SpI2 : Specs := [(6, C_right), (35, C_may), (37, C_irw), (59, C_ihas), (50, C_ofi), (39, C_toi), (45, C_ipt), (38, C_iad), (36, C_nright), (33, C_hnd), (34, C_rom), (47, C_trd)]
theorem SpI2_ok : SpecsOk Try.prog SpI2 := .cons cright_ok (.cons cmay_ok (.cons cirw_ok (.cons cihas_ok (.cons cofi_ok (.cons ctoi_ok (.cons cipt_ok (.cons ciad_ok (.cons cnright_ok (.cons chnd_ok (.cons crom_ok (.cons ctrd_ok (.nil _))))))))))))
def mv_v0 (ls : List D) (i : Int) (k1 : Int) (w1 : Int) (a1 : Int) (b1 : Int) (k2 : Int) (w2 : Int) (a2 : Int) (b2 : Int) : List D := bif right_v0 ls then bif may_v0 k1 w1 a1 b1 then bif may_v0 k2 w2 a2 b2 then bif ihas_v0 ls i then bif D.getI (nthD (D.getL (nthD ls (Int.toNat i))) 2) == k1 && (D.getI (nthD (D.getL (nthD ls (Int.toNat i))) 3) == w1 && (D.getI (nthD (D.getL (nthD (D.getL (nthD ls (Int.toNat i))) 4)) 0) == a1 && (D.getI (nthD (D.getL (nthD (D.getL (nthD ls (Int.toNat i))) 4)) 1) == b1 && true) && true)) then ipt_v0 ls i (D.getB (nthD (D.getL (nthD ls (Int.toNat i))) 0)) (D.getS (nthD (D.getL (nthD ls (Int.toNat i))) 1)) k2 w2 a2 b2 else [] else [] else [] else [] else []
def mv_v1 (ls : List D) (i : Int) (k1 : Int) (w1 : Int) (a1 : Int) (b1 : Int) (k2 : Int) (w2 : Int) (a2 : Int) (b2 : Int) : Int := bif right_v0 ls then bif may_v0 k1 w1 a1 b1 then bif may_v0 k2 w2 a2 b2 then bif ihas_v0 ls i then bif D.getI (nthD (D.getL (nthD ls (Int.toNat i))) 2) == k1 && (D.getI (nthD (D.getL (nthD ls (Int.toNat i))) 3) == w1 && (D.getI (nthD (D.getL (nthD (D.getL (nthD ls (Int.toNat i))) 4)) 0) == a1 && (D.getI (nthD (D.getL (nthD (D.getL (nthD ls (Int.toNat i))) 4)) 1) == b1 && true) && true)) then ipt_v1 ls i else (3 : Int) else (3 : Int) else (1 : Int) else (1 : Int) else (1 : Int)
def mv_pre (ls : List D) (i : Int) (k1 : Int) (w1 : Int) (a1 : Int) (b1 : Int) (k2 : Int) (w2 : Int) (a2 : Int) (b2 : Int) : Bool := iw_okL ls && (!right_v0 ls || (!may_v0 k1 w1 a1 b1 || (!may_v0 k2 w2 a2 b2 || iof_pre ls && (ihas_pre ls i && (!ihas_v0 ls i || decide ((0 : Int) ≤ i) && (decide (Int.toNat i < List.length ls) && (okE (Ek.agg [Ek.bool, Ek.str, Ek.int IntKind.i64, Ek.int IntKind.i64, Ek.agg [Ek.int IntKind.i64, Ek.int IntKind.i64]]) (nthD ls (Int.toNat i)) && (D.eqb (D.agg [D.int IntKind.i64 k1, D.int IntKind.i64 w1, D.agg [D.int IntKind.i64 a1, D.int IntKind.i64 b1]]) (D.agg [D.int IntKind.i64 k1, D.int IntKind.i64 w1, D.agg [D.int IntKind.i64 a1, D.int IntKind.i64 b1]]) && (!(D.getI (nthD (D.getL (nthD ls (Int.toNat i))) 2) == k1 && (D.getI (nthD (D.getL (nthD ls (Int.toNat i))) 3) == w1 && (D.getI (nthD (D.getL (nthD (D.getL (nthD ls (Int.toNat i))) 4)) 0) == a1 && (D.getI (nthD (D.getL (nthD (D.getL (nthD ls (Int.toNat i))) 4)) 1) == b1 && true) && true))) || D.eqb (D.agg [D.int IntKind.i64 k2, D.int IntKind.i64 w2, D.agg [D.int IntKind.i64 a2, D.int IntKind.i64 b2]]) (D.agg [D.int IntKind.i64 k2, D.int IntKind.i64 w2, D.agg [D.int IntKind.i64 a2, D.int IntKind.i64 b2]]) && (toi_pre w2 a2 b2 && ipt_pre ls i (D.getB (nthD (D.getL (nthD ls (Int.toNat i))) 0)) (D.getS (nthD (D.getL (nthD ls (Int.toNat i))) 1)) k2 w2 a2 b2))))))))))
def C_mv : FunT := fun args σ => match args, σ with
  | [AV.dat (D.slc (Sh.agg [Sh.one, Sh.one, Sh.one, Sh.one, Sh.agg [Sh.one, Sh.one]]) ls), AV.dat (D.int IntKind.i64 i), AV.dat (D.agg [D.int IntKind.i64 k1, D.int IntKind.i64 w1, D.agg [D.int IntKind.i64 a1, D.int IntKind.i64 b1]]), AV.dat (D.agg [D.int IntKind.i64 k2, D.int IntKind.i64 w2, D.agg [D.int IntKind.i64 a2, D.int IntKind.i64 b2]])], [] => .chk ((mv_pre ls i k1 w1 a1 b1 k2 w2 a2 b2)) (.leaf ([AV.dat (D.slc (Sh.agg [Sh.one, Sh.one, Sh.one, Sh.one, Sh.agg [Sh.one, Sh.one]]) (mv_v0 ls i k1 w1 a1 b1 k2 w2 a2 b2)), AV.dat (D.int IntKind.i64 (mv_v1 ls i k1 w1 a1 b1 k2 w2 a2 b2))], []))
  | _, _ => .fail
theorem mv_raw0 (ls : List D) (i k1 w1 a1 b1 k2 w2 a2 b2 : Int) : runF (envOf tab SpI2 [] [] []) true Try.f44 [.dat (.slc (.agg [.one, .one, .one, .one, .agg [.one, .one]]) ls), .dat (.int .i64 i), .dat (.agg [.int .i64 k1, .int .i64 w1, .agg [.int .i64 a1, .int .i64 b1]]), .dat (.agg [.int .i64 k2, .int .i64 w2, .agg [.int .i64 a2, .int .i64 b2]])] [] =
  (bif iw_okL ls then 
   (bif !right_v0 ls then some ([AV.dat (D.slc (Sh.agg [Sh.one, Sh.one, Sh.one, Sh.one, Sh.agg [Sh.one, Sh.one]]) []), AV.dat (D.int IntKind.i64 (1 : Int))], []) else 
    (bif !may_v0 k1 w1 a1 b1 then some ([AV.dat (D.slc (Sh.agg [Sh.one, Sh.one, Sh.one, Sh.one, Sh.agg [Sh.one, Sh.one]]) []), AV.dat (D.int IntKind.i64 (1 : Int))], []) else 
     (bif !may_v0 k2 w2 a2 b2 then some ([AV.dat (D.slc (Sh.agg [Sh.one, Sh.one, Sh.one, Sh.one, Sh.agg [Sh.one, Sh.one]]) []), AV.dat (D.int IntKind.i64 (1 : Int))], []) else 
      (bif iof_pre ls then 
       (bif ihas_pre ls i then 
        (bif !ihas_v0 ls i then some ([AV.dat (D.slc (Sh.agg [Sh.one, Sh.one, Sh.one, Sh.one, Sh.agg [Sh.one, Sh.one]]) []), AV.dat (D.int IntKind.i64 (3 : Int))], []) else 
         (bif decide ((0 : Int) ≤ i) then 
          (bif decide (Int.toNat i < List.length ls) then 
           (bif okE (Ek.agg [Ek.bool, Ek.str, Ek.int IntKind.i64, Ek.int IntKind.i64, Ek.agg [Ek.int IntKind.i64, Ek.int IntKind.i64]]) (nthD ls (Int.toNat i)) then 
            (bif D.eqb (D.agg [D.int IntKind.i64 k1, D.int IntKind.i64 w1, D.agg [D.int IntKind.i64 a1, D.int IntKind.i64 b1]]) (D.agg [D.int IntKind.i64 k1, D.int IntKind.i64 w1, D.agg [D.int IntKind.i64 a1, D.int IntKind.i64 b1]]) && true then 
             (bif true != (D.getI (nthD (D.getL (nthD ls (Int.toNat i))) 2) == k1 && (D.getI (nthD (D.getL (nthD ls (Int.toNat i))) 3) == w1 && (D.getI (nthD (D.getL (nthD (D.getL (nthD ls (Int.toNat i))) 4)) 0) == a1 && (D.getI (nthD (D.getL (nthD (D.getL (nthD ls (Int.toNat i))) 4)) 1) == b1 && true) && true))) then some ([AV.dat (D.slc (Sh.agg [Sh.one, Sh.one, Sh.one, Sh.one, Sh.agg [Sh.one, Sh.one]]) []), AV.dat (D.int IntKind.i64 (3 : Int))], []) else 
              (bif iof_pre ls then 
               (bif decide ((0 : Int) ≤ i) then 
                (bif decide (Int.toNat i < List.length ls) then 
                 (bif okE (Ek.agg [Ek.bool, Ek.str, Ek.int IntKind.i64, Ek.int IntKind.i64, Ek.agg [Ek.int IntKind.i64, Ek.int IntKind.i64]]) (nthD ls (Int.toNat i)) then 
                  (bif D.eqb (D.agg [D.int IntKind.i64 k2, D.int IntKind.i64 w2, D.agg [D.int IntKind.i64 a2, D.int IntKind.i64 b2]]) (D.agg [D.int IntKind.i64 k2, D.int IntKind.i64 w2, D.agg [D.int IntKind.i64 a2, D.int IntKind.i64 b2]]) && true then 
                   (bif toi_pre w2 a2 b2 then 
                    (bif ipt_pre ls i (D.getB (nthD (D.getL (nthD ls (Int.toNat i))) 0)) (D.getS (nthD (D.getL (nthD ls (Int.toNat i))) 1)) k2 w2 a2 b2 then some ([AV.dat (D.slc (Sh.agg [Sh.one, Sh.one, Sh.one, Sh.one, Sh.agg [Sh.one, Sh.one]]) (ipt_v0 ls i (D.getB (nthD (D.getL (nthD ls (Int.toNat i))) 0)) (D.getS (nthD (D.getL (nthD ls (Int.toNat i))) 1)) k2 w2 a2 b2)), AV.dat (D.int IntKind.i64 (ipt_v1 ls i))], []) else none) else none) else none) else none) else none) else none) else none)) else none) else none) else none) else none)) else none) else none)))) else none) := by kernel_rfl
theorem mv_case0 (ls : List D) (i k1 w1 a1 b1 k2 w2 a2 b2 : Int) : runF (envOf tab SpI2 [] [] []) true Try.f44 [.dat (.slc (.agg [.one, .one, .one, .one, .agg [.one, .one]]) ls), .dat (.int .i64 i), .dat (.agg [.int .i64 k1, .int .i64 w1, .agg [.int .i64 a1, .int .i64 b1]]), .dat (.agg [.int .i64 k2, .int .i64 w2, .agg [.int .i64 a2, .int .i64 b2]])] [] = FunT.run C_mv [.dat (.slc (.agg [.one, .one, .one, .one, .agg [.one, .one]]) ls), .dat (.int .i64 i), .dat (.agg [.int .i64 k1, .int .i64 w1, .agg [.int .i64 a1, .int .i64 b1]]), .dat (.agg [.int .i64 k2, .int .i64 w2, .agg [.int .i64 a2, .int .i64 b2]])] [] := (mv_raw0 ls i k1 w1 a1 b1 k2 w2 a2 b2).trans (by
  show _ = (cond (iw_okL ls && (!right_v0 ls || (!may_v0 k1 w1 a1 b1 || (!may_v0 k2 w2 a2 b2 || iof_pre ls && (ihas_pre ls i && (!ihas_v0 ls i || decide ((0 : Int) ≤ i) && (decide (Int.toNat i < List.length ls) && (okE (Ek.agg [Ek.bool, Ek.str, Ek.int IntKind.i64, Ek.int IntKind.i64, Ek.agg [Ek.int IntKind.i64, Ek.int IntKind.i64]]) (nthD ls (Int.toNat i)) && (D.eqb (D.agg [D.int IntKind.i64 k1, D.int IntKind.i64 w1, D.agg [D.int IntKind.i64 a1, D.int IntKind.i64 b1]]) (D.agg [D.int IntKind.i64 k1, D.int IntKind.i64 w1, D.agg [D.int IntKind.i64 a1, D.int IntKind.i64 b1]]) && (!(D.getI (nthD (D.getL (nthD ls (Int.toNat i))) 2) == k1 && (D.getI (nthD (D.getL (nthD ls (Int.toNat i))) 3) == w1 && (D.getI (nthD (D.getL (nthD (D.getL (nthD ls (Int.toNat i))) 4)) 0) == a1 && (D.getI (nthD (D.getL (nthD (D.getL (nthD ls (Int.toNat i))) 4)) 1) == b1 && true) && true))) || D.eqb (D.agg [D.int IntKind.i64 k2, D.int IntKind.i64 w2, D.agg [D.int IntKind.i64 a2, D.int IntKind.i64 b2]]) (D.agg [D.int IntKind.i64 k2, D.int IntKind.i64 w2, D.agg [D.int IntKind.i64 a2, D.int IntKind.i64 b2]]) && (toi_pre w2 a2 b2 && ipt_pre ls i (D.getB (nthD (D.getL (nthD ls (Int.toNat i))) 0)) (D.getS (nthD (D.getL (nthD ls (Int.toNat i))) 1)) k2 w2 a2 b2))))))))))) (some (([AV.dat (D.slc (Sh.agg [Sh.one, Sh.one, Sh.one, Sh.one, Sh.agg [Sh.one, Sh.one]]) (bif right_v0 ls then bif may_v0 k1 w1 a1 b1 then bif may_v0 k2 w2 a2 b2 then bif ihas_v0 ls i then bif D.getI (nthD (D.getL (nthD ls (Int.toNat i))) 2) == k1 && (D.getI (nthD (D.getL (nthD ls (Int.toNat i))) 3) == w1 && (D.getI (nthD (D.getL (nthD (D.getL (nthD ls (Int.toNat i))) 4)) 0) == a1 && (D.getI (nthD (D.getL (nthD (D.getL (nthD ls (Int.toNat i))) 4)) 1) == b1 && true) && true)) then ipt_v0 ls i (D.getB (nthD (D.getL (nthD ls (Int.toNat i))) 0)) (D.getS (nthD (D.getL (nthD ls (Int.toNat i))) 1)) k2 w2 a2 b2 else [] else [] else [] else [] else [])), AV.dat (D.int IntKind.i64 (bif right_v0 ls then bif may_v0 k1 w1 a1 b1 then bif may_v0 k2 w2 a2 b2 then bif ihas_v0 ls i then bif D.getI (nthD (D.getL (nthD ls (Int.toNat i))) 2) == k1 && (D.getI (nthD (D.getL (nthD ls (Int.toNat i))) 3) == w1 && (D.getI (nthD (D.getL (nthD (D.getL (nthD ls (Int.toNat i))) 4)) 0) == a1 && (D.getI (nthD (D.getL (nthD (D.getL (nthD ls (Int.toNat i))) 4)) 1) == b1 && true) && true)) then ipt_v1 ls i else (3 : Int) else (3 : Int) else (1 : Int) else (1 : Int) else (1 : Int)))], []) : Res)) none)
  generalize (D.getI (nthD (D.getL (nthD ls (Int.toNat i))) 2) == k1 && (D.getI (nthD (D.getL (nthD ls (Int.toNat i))) 3) == w1 && (D.getI (nthD (D.getL (nthD (D.getL (nthD ls (Int.toNat i))) 4)) 0) == a1 && (D.getI (nthD (D.getL (nthD (D.getL (nthD ls (Int.toNat i))) 4)) 1) == b1 && true) && true))) = z0
  generalize (D.eqb (D.agg [D.int IntKind.i64 k1, D.int IntKind.i64 w1, D.agg [D.int IntKind.i64 a1, D.int IntKind.i64 b1]]) (D.agg [D.int IntKind.i64 k1, D.int IntKind.i64 w1, D.agg [D.int IntKind.i64 a1, D.int IntKind.i64 b1]])) = z1
  generalize (D.eqb (D.agg [D.int IntKind.i64 k2, D.int IntKind.i64 w2, D.agg [D.int IntKind.i64 a2, D.int IntKind.i64 b2]]) (D.agg [D.int IntKind.i64 k2, D.int IntKind.i64 w2, D.agg [D.int IntKind.i64 a2, D.int IntKind.i64 b2]])) = z2
  generalize (okE (Ek.agg [Ek.bool, Ek.str, Ek.int IntKind.i64, Ek.int IntKind.i64, Ek.agg [Ek.int IntKind.i64, Ek.int IntKind.i64]]) (nthD ls (Int.toNat i))) = z3
  generalize (ipt_pre ls i (D.getB (nthD (D.getL (nthD ls (Int.toNat i))) 0)) (D.getS (nthD (D.getL (nthD ls (Int.toNat i))) 1)) k2 w2 a2 b2) = z4
  generalize (decide ((0 : Int) ≤ i)) = z5
  generalize (decide (Int.toNat i < List.length ls)) = z6
  generalize (may_v0 k2 w2 a2 b2) = z7
  generalize (may_v0 k1 w1 a1 b1) = z8
  generalize (toi_pre w2 a2 b2) = z9
  generalize (ihas_pre ls i) = z10
  generalize (ihas_v0 ls i) = z11
  generalize (iw_okL ls) = z12
  generalize (iof_pre ls) = z13
  generalize (right_v0 ls) = z14
  cases z12 with
  | true =>
   cases z14 with
   | true =>
    cases z8 with
    | true =>
     cases z7 with
     | true =>
      cases z13 with
      | true =>
       cases z10 with
       | true =>
        cases z11 with
        | true =>
         cases z5 with
         | true =>
          cases z6 with
          | true =>
           cases z3 with
           | true =>
            cases z1 with
            | true =>
             cases z0 with
             | true =>
              cases z2 with
              | true =>
               cases z9 with
               | true =>
                cases z4 with
                | true =>
                 rfl
                | false =>
                 rfl
               | false =>
                rfl
              | false =>
               rfl
             | false =>
              rfl
            | false =>
             rfl
           | false =>
            rfl
          | false =>
           rfl
         | false =>
          rfl
        | false =>
         rfl
       | false =>
        rfl
      | false =>
       rfl
     | false =>
      rfl
    | false =>
     rfl
   | false =>
    rfl
  | false =>
   rfl
  )
theorem cmv_ok : FunOk Try.prog 44 (FunT.run C_mv) := by
  refine fun_ok (E := envOf tab SpI2 [] [] []) (fz := true) (fn := Try.f44) (envOf_ok progOk SpI2_ok) (by kernel_rfl) (by kernel_rfl) (loops_none (by kernel_rfl)) ?_
  intro args σ r h
  unfold C_mv at h
  split at h
  · exact (mv_case0 _ _ _ _ _ _ _ _ _ _).trans h
  · simp [T.run_fail] at h

def mk_v0 (ls : List D) (s : ByteArray) (w : Int) : List D := bif right_v0 ls then bif may_v0 (1 : Int) w (0 : Int) (0 : Int) then bif nright_v0 s then iad_v0 ls true s (1 : Int) w (0 : Int) (0 : Int) else [] else [] else []
def mk_v1 (ls : List D) (s : ByteArray) (w : Int) : Int := bif right_v0 ls then bif may_v0 (1 : Int) w (0 : Int) (0 : Int) then bif nright_v0 s then iad_v1 ls else (0 : Int) else (0 : Int) else (0 : Int)
def mk_v2 (ls : List D) (s : ByteArray) (w : Int) : Int := bif right_v0 ls then bif may_v0 (1 : Int) w (0 : Int) (0 : Int) then bif nright_v0 s then iad_v2 ls else (2 : Int) else (1 : Int) else (1 : Int)
def mk_pre (ls : List D) (s : ByteArray) (w : Int) : Bool := iw_okL ls && (!right_v0 ls || (!may_v0 (1 : Int) w (0 : Int) (0 : Int) || nright_pre s && (!nright_v0 s || iof_pre ls && (D.eqb (D.agg [D.int IntKind.i64 (1 : Int), D.int IntKind.i64 w, D.agg [D.int IntKind.i64 (0 : Int), D.int IntKind.i64 (0 : Int)]]) (D.agg [D.int IntKind.i64 (1 : Int), D.int IntKind.i64 w, D.agg [D.int IntKind.i64 (0 : Int), D.int IntKind.i64 (0 : Int)]]) && (toi_pre w (0 : Int) (0 : Int) && iad_pre ls true s (1 : Int) w (0 : Int) (0 : Int))))))
def C_mk : FunT := fun args σ => match args, σ with
  | [AV.dat (D.slc (Sh.agg [Sh.one, Sh.one, Sh.one, Sh.one, Sh.agg [Sh.one, Sh.one]]) ls), AV.dat (D.str s), AV.dat (D.int IntKind.i64 w)], [] => .chk ((mk_pre ls s w)) (.leaf ([AV.dat (D.slc (Sh.agg [Sh.one, Sh.one, Sh.one, Sh.one, Sh.agg [Sh.one, Sh.one]]) (mk_v0 ls s w)), AV.dat (D.int IntKind.i64 (mk_v1 ls s w)), AV.dat (D.int IntKind.i64 (mk_v2 ls s w))], []))
  | _, _ => .fail
theorem mk_raw0 (ls : List D) (s : ByteArray) (w : Int) : runF (envOf tab SpI2 [] [] []) true Try.f10 [.dat (.slc (.agg [.one, .one, .one, .one, .agg [.one, .one]]) ls), .dat (.str s), .dat (.int .i64 w)] [] =
  (bif iw_okL ls then 
   (bif !right_v0 ls then some ([AV.dat (D.slc (Sh.agg [Sh.one, Sh.one, Sh.one, Sh.one, Sh.agg [Sh.one, Sh.one]]) []), AV.dat (D.int IntKind.i64 (0 : Int)), AV.dat (D.int IntKind.i64 (1 : Int))], []) else 
    (bif !may_v0 (1 : Int) w (0 : Int) (0 : Int) then some ([AV.dat (D.slc (Sh.agg [Sh.one, Sh.one, Sh.one, Sh.one, Sh.agg [Sh.one, Sh.one]]) []), AV.dat (D.int IntKind.i64 (0 : Int)), AV.dat (D.int IntKind.i64 (1 : Int))], []) else 
     (bif nright_pre s then 
      (bif !nright_v0 s then some ([AV.dat (D.slc (Sh.agg [Sh.one, Sh.one, Sh.one, Sh.one, Sh.agg [Sh.one, Sh.one]]) []), AV.dat (D.int IntKind.i64 (0 : Int)), AV.dat (D.int IntKind.i64 (2 : Int))], []) else 
       (bif iof_pre ls then 
        (bif D.eqb (D.agg [D.int IntKind.i64 (1 : Int), D.int IntKind.i64 w, D.agg [D.int IntKind.i64 (0 : Int), D.int IntKind.i64 (0 : Int)]]) (D.agg [D.int IntKind.i64 (1 : Int), D.int IntKind.i64 w, D.agg [D.int IntKind.i64 (0 : Int), D.int IntKind.i64 (0 : Int)]]) && true then 
         (bif toi_pre w (0 : Int) (0 : Int) then 
          (bif iad_pre ls true s (1 : Int) w (0 : Int) (0 : Int) then some ([AV.dat (D.slc (Sh.agg [Sh.one, Sh.one, Sh.one, Sh.one, Sh.agg [Sh.one, Sh.one]]) (iad_v0 ls true s (1 : Int) w (0 : Int) (0 : Int))), AV.dat (D.int IntKind.i64 (iad_v1 ls)), AV.dat (D.int IntKind.i64 (iad_v2 ls))], []) else none) else none) else none) else none)) else none))) else none) := by kernel_rfl
theorem mk_case0 (ls : List D) (s : ByteArray) (w : Int) : runF (envOf tab SpI2 [] [] []) true Try.f10 [.dat (.slc (.agg [.one, .one, .one, .one, .agg [.one, .one]]) ls), .dat (.str s), .dat (.int .i64 w)] [] = FunT.run C_mk [.dat (.slc (.agg [.one, .one, .one, .one, .agg [.one, .one]]) ls), .dat (.str s), .dat (.int .i64 w)] [] := (mk_raw0 ls s w).trans (by
  show _ = (cond (iw_okL ls && (!right_v0 ls || (!may_v0 (1 : Int) w (0 : Int) (0 : Int) || nright_pre s && (!nright_v0 s || iof_pre ls && (D.eqb (D.agg [D.int IntKind.i64 (1 : Int), D.int IntKind.i64 w, D.agg [D.int IntKind.i64 (0 : Int), D.int IntKind.i64 (0 : Int)]]) (D.agg [D.int IntKind.i64 (1 : Int), D.int IntKind.i64 w, D.agg [D.int IntKind.i64 (0 : Int), D.int IntKind.i64 (0 : Int)]]) && (toi_pre w (0 : Int) (0 : Int) && iad_pre ls true s (1 : Int) w (0 : Int) (0 : Int))))))) (some (([AV.dat (D.slc (Sh.agg [Sh.one, Sh.one, Sh.one, Sh.one, Sh.agg [Sh.one, Sh.one]]) (bif right_v0 ls then bif may_v0 (1 : Int) w (0 : Int) (0 : Int) then bif nright_v0 s then iad_v0 ls true s (1 : Int) w (0 : Int) (0 : Int) else [] else [] else [])), AV.dat (D.int IntKind.i64 (bif right_v0 ls then bif may_v0 (1 : Int) w (0 : Int) (0 : Int) then bif nright_v0 s then iad_v1 ls else (0 : Int) else (0 : Int) else (0 : Int))), AV.dat (D.int IntKind.i64 (bif right_v0 ls then bif may_v0 (1 : Int) w (0 : Int) (0 : Int) then bif nright_v0 s then iad_v2 ls else (2 : Int) else (1 : Int) else (1 : Int)))], []) : Res)) none)
  generalize (D.eqb (D.agg [D.int IntKind.i64 (1 : Int), D.int IntKind.i64 w, D.agg [D.int IntKind.i64 (0 : Int), D.int IntKind.i64 (0 : Int)]]) (D.agg [D.int IntKind.i64 (1 : Int), D.int IntKind.i64 w, D.agg [D.int IntKind.i64 (0 : Int), D.int IntKind.i64 (0 : Int)]])) = z0
  generalize (iad_pre ls true s (1 : Int) w (0 : Int) (0 : Int)) = z1
  generalize (may_v0 (1 : Int) w (0 : Int) (0 : Int)) = z2
  generalize (toi_pre w (0 : Int) (0 : Int)) = z3
  generalize (iw_okL ls) = z4
  generalize (nright_v0 s) = z5
  generalize (iof_pre ls) = z6
  generalize (right_v0 ls) = z7
  generalize (nright_pre s) = z8
  cases z4 with
  | true =>
   cases z7 with
   | true =>
    cases z2 with
    | true =>
     cases z8 with
     | true =>
      cases z5 with
      | true =>
       cases z6 with
       | true =>
        cases z0 with
        | true =>
         cases z3 with
         | true =>
          cases z1 with
          | true =>
           rfl
          | false =>
           rfl
         | false =>
          rfl
        | false =>
         rfl
       | false =>
        rfl
      | false =>
       rfl
     | false =>
      rfl
    | false =>
     rfl
   | false =>
    rfl
  | false =>
   rfl
  )
theorem cmk_ok : FunOk Try.prog 10 (FunT.run C_mk) := by
  refine fun_ok (E := envOf tab SpI2 [] [] []) (fz := true) (fn := Try.f10) (envOf_ok progOk SpI2_ok) (by kernel_rfl) (by kernel_rfl) (loops_none (by kernel_rfl)) ?_
  intro args σ r h
  unfold C_mk at h
  split at h
  · exact (mk_case0 _ _ _).trans h
  · simp [T.run_fail] at h

abbrev SpI3 : Specs := (44, C_mv) :: SpI2
theorem SpI3_ok : SpecsOk Try.prog SpI3 := .cons cmv_ok SpI2_ok
def scrap_v0 (ls : List D) (i : Int) (w : Int) : List D := bif mv_v1 ls i (1 : Int) w (0 : Int) (0 : Int) (1 : Int) w (0 : Int) (0 : Int) != (0 : Int) then [] else ipt_v0 ls i false { data := { toList := [] } } (0 : Int) (0 : Int) (0 : Int) (0 : Int)
def scrap_v1 (ls : List D) (i : Int) (w : Int) : Int := bif mv_v1 ls i (1 : Int) w (0 : Int) (0 : Int) (1 : Int) w (0 : Int) (0 : Int) != (0 : Int) then mv_v1 ls i (1 : Int) w (0 : Int) (0 : Int) (1 : Int) w (0 : Int) (0 : Int) else ipt_v1 ls i
def scrap_pre (ls : List D) (i : Int) (w : Int) : Bool := mv_pre ls i (1 : Int) w (0 : Int) (0 : Int) (1 : Int) w (0 : Int) (0 : Int) && (mv_v1 ls i (1 : Int) w (0 : Int) (0 : Int) (1 : Int) w (0 : Int) (0 : Int) != (0 : Int) || iof_pre ls && ipt_pre ls i false { data := { toList := [] } } (0 : Int) (0 : Int) (0 : Int) (0 : Int))
def C_scrap : FunT := fun args σ => match args, σ with
  | [AV.dat (D.slc (Sh.agg [Sh.one, Sh.one, Sh.one, Sh.one, Sh.agg [Sh.one, Sh.one]]) ls), AV.dat (D.int IntKind.i64 i), AV.dat (D.int IntKind.i64 w)], [] => .chk ((scrap_pre ls i w)) (.leaf ([AV.dat (D.slc (Sh.agg [Sh.one, Sh.one, Sh.one, Sh.one, Sh.agg [Sh.one, Sh.one]]) (scrap_v0 ls i w)), AV.dat (D.int IntKind.i64 (scrap_v1 ls i w))], []))
  | _, _ => .fail
theorem scrap_raw0 (ls : List D) (i w : Int) : runF (envOf tab SpI3 [] [] []) true Try.f14 [.dat (.slc (.agg [.one, .one, .one, .one, .agg [.one, .one]]) ls), .dat (.int .i64 i), .dat (.int .i64 w)] [] =
  (bif mv_pre ls i (1 : Int) w (0 : Int) (0 : Int) (1 : Int) w (0 : Int) (0 : Int) then 
   (bif mv_v1 ls i (1 : Int) w (0 : Int) (0 : Int) (1 : Int) w (0 : Int) (0 : Int) != (0 : Int) then some ([AV.dat (D.slc (Sh.agg [Sh.one, Sh.one, Sh.one, Sh.one, Sh.agg [Sh.one, Sh.one]]) []), AV.dat (D.int IntKind.i64 (mv_v1 ls i (1 : Int) w (0 : Int) (0 : Int) (1 : Int) w (0 : Int) (0 : Int)))], []) else 
    (bif iof_pre ls then 
     (bif ipt_pre ls i false { data := { toList := [] } } (0 : Int) (0 : Int) (0 : Int) (0 : Int) then some ([AV.dat (D.slc (Sh.agg [Sh.one, Sh.one, Sh.one, Sh.one, Sh.agg [Sh.one, Sh.one]]) (ipt_v0 ls i false { data := { toList := [] } } (0 : Int) (0 : Int) (0 : Int) (0 : Int))), AV.dat (D.int IntKind.i64 (ipt_v1 ls i))], []) else none) else none)) else none) := by kernel_rfl
theorem scrap_case0 (ls : List D) (i w : Int) : runF (envOf tab SpI3 [] [] []) true Try.f14 [.dat (.slc (.agg [.one, .one, .one, .one, .agg [.one, .one]]) ls), .dat (.int .i64 i), .dat (.int .i64 w)] [] = FunT.run C_scrap [.dat (.slc (.agg [.one, .one, .one, .one, .agg [.one, .one]]) ls), .dat (.int .i64 i), .dat (.int .i64 w)] [] := (scrap_raw0 ls i w).trans (by
  show _ = (cond (mv_pre ls i (1 : Int) w (0 : Int) (0 : Int) (1 : Int) w (0 : Int) (0 : Int) && (mv_v1 ls i (1 : Int) w (0 : Int) (0 : Int) (1 : Int) w (0 : Int) (0 : Int) != (0 : Int) || iof_pre ls && ipt_pre ls i false { data := { toList := [] } } (0 : Int) (0 : Int) (0 : Int) (0 : Int))) (some (([AV.dat (D.slc (Sh.agg [Sh.one, Sh.one, Sh.one, Sh.one, Sh.agg [Sh.one, Sh.one]]) (bif mv_v1 ls i (1 : Int) w (0 : Int) (0 : Int) (1 : Int) w (0 : Int) (0 : Int) != (0 : Int) then [] else ipt_v0 ls i false { data := { toList := [] } } (0 : Int) (0 : Int) (0 : Int) (0 : Int))), AV.dat (D.int IntKind.i64 (bif mv_v1 ls i (1 : Int) w (0 : Int) (0 : Int) (1 : Int) w (0 : Int) (0 : Int) != (0 : Int) then mv_v1 ls i (1 : Int) w (0 : Int) (0 : Int) (1 : Int) w (0 : Int) (0 : Int) else ipt_v1 ls i))], []) : Res)) none)
  generalize (mv_v1 ls i (1 : Int) w (0 : Int) (0 : Int) (1 : Int) w (0 : Int) (0 : Int) != (0 : Int)) = z0
  generalize (mv_pre ls i (1 : Int) w (0 : Int) (0 : Int) (1 : Int) w (0 : Int) (0 : Int)) = z1
  generalize (ipt_pre ls i false { data := { toList := [] } } (0 : Int) (0 : Int) (0 : Int) (0 : Int)) = z2
  generalize (iof_pre ls) = z3
  cases z1 with
  | true =>
   cases z0 with
   | true =>
    rfl
   | false =>
    cases z3 with
    | true =>
     cases z2 with
     | true =>
      rfl
     | false =>
      rfl
    | false =>
     rfl
  | false =>
   rfl
  )
theorem cscrap_ok : FunOk Try.prog 14 (FunT.run C_scrap) := by
  refine fun_ok (E := envOf tab SpI3 [] [] []) (fz := true) (fn := Try.f14) (envOf_ok progOk SpI3_ok) (by kernel_rfl) (by kernel_rfl) (loops_none (by kernel_rfl)) ?_
  intro args σ r h
  unfold C_scrap at h
  split at h
  · exact (scrap_case0 _ _ _).trans h
  · simp [T.run_fail] at h

def drop_pre (ls : List D) (i : Int) (w : Int) (a : Int) (b : Int) : Bool := D.eqb (D.agg [D.int IntKind.i64 a, D.int IntKind.i64 b]) (D.agg [D.int IntKind.i64 a, D.int IntKind.i64 b]) && mv_pre ls i (1 : Int) w (0 : Int) (0 : Int) (2 : Int) (0 : Int) a b
def C_drop : FunT := fun args σ => match args, σ with
  | [AV.dat (D.slc (Sh.agg [Sh.one, Sh.one, Sh.one, Sh.one, Sh.agg [Sh.one, Sh.one]]) ls), AV.dat (D.int IntKind.i64 i), AV.dat (D.int IntKind.i64 w), AV.dat (D.agg [D.int IntKind.i64 a, D.int IntKind.i64 b])], [] => .chk ((drop_pre ls i w a b)) (.leaf ([AV.dat (D.slc (Sh.agg [Sh.one, Sh.one, Sh.one, Sh.one, Sh.agg [Sh.one, Sh.one]]) (mv_v0 ls i (1 : Int) w (0 : Int) (0 : Int) (2 : Int) (0 : Int) a b)), AV.dat (D.int IntKind.i64 (mv_v1 ls i (1 : Int) w (0 : Int) (0 : Int) (2 : Int) (0 : Int) a b))], []))
  | _, _ => .fail
theorem drop_raw0 (ls : List D) (i w a b : Int) : runF (envOf tab SpI3 [] [] []) true Try.f16 [.dat (.slc (.agg [.one, .one, .one, .one, .agg [.one, .one]]) ls), .dat (.int .i64 i), .dat (.int .i64 w), .dat (.agg [.int .i64 a, .int .i64 b])] [] =
  (bif D.eqb (D.agg [D.int IntKind.i64 a, D.int IntKind.i64 b]) (D.agg [D.int IntKind.i64 a, D.int IntKind.i64 b]) && true then 
   (bif mv_pre ls i (1 : Int) w (0 : Int) (0 : Int) (2 : Int) (0 : Int) a b then some ([AV.dat (D.slc (Sh.agg [Sh.one, Sh.one, Sh.one, Sh.one, Sh.agg [Sh.one, Sh.one]]) (mv_v0 ls i (1 : Int) w (0 : Int) (0 : Int) (2 : Int) (0 : Int) a b)), AV.dat (D.int IntKind.i64 (mv_v1 ls i (1 : Int) w (0 : Int) (0 : Int) (2 : Int) (0 : Int) a b))], []) else none) else none) := by kernel_rfl
theorem drop_case0 (ls : List D) (i w a b : Int) : runF (envOf tab SpI3 [] [] []) true Try.f16 [.dat (.slc (.agg [.one, .one, .one, .one, .agg [.one, .one]]) ls), .dat (.int .i64 i), .dat (.int .i64 w), .dat (.agg [.int .i64 a, .int .i64 b])] [] = FunT.run C_drop [.dat (.slc (.agg [.one, .one, .one, .one, .agg [.one, .one]]) ls), .dat (.int .i64 i), .dat (.int .i64 w), .dat (.agg [.int .i64 a, .int .i64 b])] [] := (drop_raw0 ls i w a b).trans (by
  show _ = (cond (D.eqb (D.agg [D.int IntKind.i64 a, D.int IntKind.i64 b]) (D.agg [D.int IntKind.i64 a, D.int IntKind.i64 b]) && mv_pre ls i (1 : Int) w (0 : Int) (0 : Int) (2 : Int) (0 : Int) a b) (some (([AV.dat (D.slc (Sh.agg [Sh.one, Sh.one, Sh.one, Sh.one, Sh.agg [Sh.one, Sh.one]]) (mv_v0 ls i (1 : Int) w (0 : Int) (0 : Int) (2 : Int) (0 : Int) a b)), AV.dat (D.int IntKind.i64 (mv_v1 ls i (1 : Int) w (0 : Int) (0 : Int) (2 : Int) (0 : Int) a b))], []) : Res)) none)
  generalize (mv_pre ls i (1 : Int) w (0 : Int) (0 : Int) (2 : Int) (0 : Int) a b) = z0
  generalize (D.eqb (D.agg [D.int IntKind.i64 a, D.int IntKind.i64 b]) (D.agg [D.int IntKind.i64 a, D.int IntKind.i64 b])) = z1
  cases z1 with
  | true =>
   cases z0 with
   | true =>
    rfl
   | false =>
    rfl
  | false =>
   rfl
  )
theorem cdrop_ok : FunOk Try.prog 16 (FunT.run C_drop) := by
  refine fun_ok (E := envOf tab SpI3 [] [] []) (fz := true) (fn := Try.f16) (envOf_ok progOk SpI3_ok) (by kernel_rfl) (by kernel_rfl) (loops_none (by kernel_rfl)) ?_
  intro args σ r h
  unfold C_drop at h
  split at h
  · exact (drop_case0 _ _ _ _ _).trans h
  · simp [T.run_fail] at h

def C_take : FunT := fun args σ => match args, σ with
  | [AV.dat (D.slc (Sh.agg [Sh.one, Sh.one, Sh.one, Sh.one, Sh.agg [Sh.one, Sh.one]]) ls), AV.dat (D.int IntKind.i64 i), AV.dat (D.int IntKind.i64 w), AV.dat (D.agg [D.int IntKind.i64 a, D.int IntKind.i64 b])], [] => .chk (mv_pre ls i (2 : Int) (0 : Int) a b (1 : Int) w (0 : Int) (0 : Int)) (.leaf ([AV.dat (D.slc (Sh.agg [Sh.one, Sh.one, Sh.one, Sh.one, Sh.agg [Sh.one, Sh.one]]) (mv_v0 ls i (2 : Int) (0 : Int) a b (1 : Int) w (0 : Int) (0 : Int))), AV.dat (D.int IntKind.i64 (mv_v1 ls i (2 : Int) (0 : Int) a b (1 : Int) w (0 : Int) (0 : Int)))], []))
  | _, _ => .fail
theorem take_raw0 (ls : List D) (i w a b : Int) : runF (envOf tab SpI3 [] [] []) true Try.f18 [.dat (.slc (.agg [.one, .one, .one, .one, .agg [.one, .one]]) ls), .dat (.int .i64 i), .dat (.int .i64 w), .dat (.agg [.int .i64 a, .int .i64 b])] [] =
  (bif mv_pre ls i (2 : Int) (0 : Int) a b (1 : Int) w (0 : Int) (0 : Int) then some ([AV.dat (D.slc (Sh.agg [Sh.one, Sh.one, Sh.one, Sh.one, Sh.agg [Sh.one, Sh.one]]) (mv_v0 ls i (2 : Int) (0 : Int) a b (1 : Int) w (0 : Int) (0 : Int))), AV.dat (D.int IntKind.i64 (mv_v1 ls i (2 : Int) (0 : Int) a b (1 : Int) w (0 : Int) (0 : Int)))], []) else none) := by kernel_rfl
theorem take_case0 (ls : List D) (i w a b : Int) : runF (envOf tab SpI3 [] [] []) true Try.f18 [.dat (.slc (.agg [.one, .one, .one, .one, .agg [.one, .one]]) ls), .dat (.int .i64 i), .dat (.int .i64 w), .dat (.agg [.int .i64 a, .int .i64 b])] [] = FunT.run C_take [.dat (.slc (.agg [.one, .one, .one, .one, .agg [.one, .one]]) ls), .dat (.int .i64 i), .dat (.int .i64 w), .dat (.agg [.int .i64 a, .int .i64 b])] [] := (take_raw0 ls i w a b).trans (by
  show _ = (cond (mv_pre ls i (2 : Int) (0 : Int) a b (1 : Int) w (0 : Int) (0 : Int)) (some (([AV.dat (D.slc (Sh.agg [Sh.one, Sh.one, Sh.one, Sh.one, Sh.agg [Sh.one, Sh.one]]) (mv_v0 ls i (2 : Int) (0 : Int) a b (1 : Int) w (0 : Int) (0 : Int))), AV.dat (D.int IntKind.i64 (mv_v1 ls i (2 : Int) (0 : Int) a b (1 : Int) w (0 : Int) (0 : Int)))], []) : Res)) none)
  generalize (mv_pre ls i (2 : Int) (0 : Int) a b (1 : Int) w (0 : Int) (0 : Int)) = z0
  cases z0 with
  | true =>
   rfl
  | false =>
   rfl
  )
theorem ctake_ok : FunOk Try.prog 18 (FunT.run C_take) := by
  refine fun_ok (E := envOf tab SpI3 [] [] []) (fz := true) (fn := Try.f18) (envOf_ok progOk SpI3_ok) (by kernel_rfl) (by kernel_rfl) (loops_none (by kernel_rfl)) ?_
  intro args σ r h
  unfold C_take at h
  split at h
  · exact (take_case0 _ _ _ _ _).trans h
  · simp [T.run_fail] at h

def pass_v0 (ls : List D) (i : Int) (w : Int) (w2 : Int) : List D := mv_v0 ls i (1 : Int) w (0 : Int) (0 : Int) (1 : Int) w2 (0 : Int) (0 : Int)
def pass_v1 (ls : List D) (i : Int) (w : Int) (w2 : Int) : Int := mv_v1 ls i (1 : Int) w (0 : Int) (0 : Int) (1 : Int) w2 (0 : Int) (0 : Int)
def pass_pre (ls : List D) (i : Int) (w : Int) (w2 : Int) : Bool := mv_pre ls i (1 : Int) w (0 : Int) (0 : Int) (1 : Int) w2 (0 : Int) (0 : Int)
def C_pass : FunT := fun args σ => match args, σ with
  | [AV.dat (D.slc (Sh.agg [Sh.one, Sh.one, Sh.one, Sh.one, Sh.agg [Sh.one, Sh.one]]) ls), AV.dat (D.int IntKind.i64 i), AV.dat (D.int IntKind.i64 w), AV.dat (D.int IntKind.i64 w2)], [] => .chk ((pass_pre ls i w w2)) (.leaf ([AV.dat (D.slc (Sh.agg [Sh.one, Sh.one, Sh.one, Sh.one, Sh.agg [Sh.one, Sh.one]]) (pass_v0 ls i w w2)), AV.dat (D.int IntKind.i64 (pass_v1 ls i w w2))], []))
  | _, _ => .fail
theorem pass_raw0 (ls : List D) (i w w2 : Int) : runF (envOf tab SpI3 [] [] []) true Try.f20 [.dat (.slc (.agg [.one, .one, .one, .one, .agg [.one, .one]]) ls), .dat (.int .i64 i), .dat (.int .i64 w), .dat (.int .i64 w2)] [] =
  (bif mv_pre ls i (1 : Int) w (0 : Int) (0 : Int) (1 : Int) w2 (0 : Int) (0 : Int) then some ([AV.dat (D.slc (Sh.agg [Sh.one, Sh.one, Sh.one, Sh.one, Sh.agg [Sh.one, Sh.one]]) (mv_v0 ls i (1 : Int) w (0 : Int) (0 : Int) (1 : Int) w2 (0 : Int) (0 : Int))), AV.dat (D.int IntKind.i64 (mv_v1 ls i (1 : Int) w (0 : Int) (0 : Int) (1 : Int) w2 (0 : Int) (0 : Int)))], []) else none) := by kernel_rfl
theorem pass_case0 (ls : List D) (i w w2 : Int) : runF (envOf tab SpI3 [] [] []) true Try.f20 [.dat (.slc (.agg [.one, .one, .one, .one, .agg [.one, .one]]) ls), .dat (.int .i64 i), .dat (.int .i64 w), .dat (.int .i64 w2)] [] = FunT.run C_pass [.dat (.slc (.agg [.one, .one, .one, .one, .agg [.one, .one]]) ls), .dat (.int .i64 i), .dat (.int .i64 w), .dat (.int .i64 w2)] [] := (pass_raw0 ls i w w2).trans (by
  show _ = (cond (mv_pre ls i (1 : Int) w (0 : Int) (0 : Int) (1 : Int) w2 (0 : Int) (0 : Int)) (some (([AV.dat (D.slc (Sh.agg [Sh.one, Sh.one, Sh.one, Sh.one, Sh.agg [Sh.one, Sh.one]]) (mv_v0 ls i (1 : Int) w (0 : Int) (0 : Int) (1 : Int) w2 (0 : Int) (0 : Int))), AV.dat (D.int IntKind.i64 (mv_v1 ls i (1 : Int) w (0 : Int) (0 : Int) (1 : Int) w2 (0 : Int) (0 : Int)))], []) : Res)) none)
  generalize (mv_pre ls i (1 : Int) w (0 : Int) (0 : Int) (1 : Int) w2 (0 : Int) (0 : Int)) = z0
  cases z0 with
  | true =>
   rfl
  | false =>
   rfl
  )
theorem cpass_ok : FunOk Try.prog 20 (FunT.run C_pass) := by
  refine fun_ok (E := envOf tab SpI3 [] [] []) (fz := true) (fn := Try.f20) (envOf_ok progOk SpI3_ok) (by kernel_rfl) (by kernel_rfl) (loops_none (by kernel_rfl)) ?_
  intro args σ r h
  unfold C_pass at h
  split at h
  · exact (pass_case0 _ _ _ _).trans h
  · simp [T.run_fail] at h

def hold_v0 (ls : List D) (i : Int) (w : Int) (w2 : Int) : List D := mv_v0 ls i (1 : Int) w (0 : Int) (0 : Int) (3 : Int) w2 (0 : Int) (0 : Int)
def hold_v1 (ls : List D) (i : Int) (w : Int) (w2 : Int) : Int := mv_v1 ls i (1 : Int) w (0 : Int) (0 : Int) (3 : Int) w2 (0 : Int) (0 : Int)
def hold_pre (ls : List D) (i : Int) (w : Int) (w2 : Int) : Bool := mv_pre ls i (1 : Int) w (0 : Int) (0 : Int) (3 : Int) w2 (0 : Int) (0 : Int)
def C_hold : FunT := fun args σ => match args, σ with
  | [AV.dat (D.slc (Sh.agg [Sh.one, Sh.one, Sh.one, Sh.one, Sh.agg [Sh.one, Sh.one]]) ls), AV.dat (D.int IntKind.i64 i), AV.dat (D.int IntKind.i64 w), AV.dat (D.int IntKind.i64 w2)], [] => .chk ((hold_pre ls i w w2)) (.leaf ([AV.dat (D.slc (Sh.agg [Sh.one, Sh.one, Sh.one, Sh.one, Sh.agg [Sh.one, Sh.one]]) (hold_v0 ls i w w2)), AV.dat (D.int IntKind.i64 (hold_v1 ls i w w2))], []))
  | _, _ => .fail
theorem hold_raw0 (ls : List D) (i w w2 : Int) : runF (envOf tab SpI3 [] [] []) true Try.f22 [.dat (.slc (.agg [.one, .one, .one, .one, .agg [.one, .one]]) ls), .dat (.int .i64 i), .dat (.int .i64 w), .dat (.int .i64 w2)] [] =
  (bif mv_pre ls i (1 : Int) w (0 : Int) (0 : Int) (3 : Int) w2 (0 : Int) (0 : Int) then some ([AV.dat (D.slc (Sh.agg [Sh.one, Sh.one, Sh.one, Sh.one, Sh.agg [Sh.one, Sh.one]]) (mv_v0 ls i (1 : Int) w (0 : Int) (0 : Int) (3 : Int) w2 (0 : Int) (0 : Int))), AV.dat (D.int IntKind.i64 (mv_v1 ls i (1 : Int) w (0 : Int) (0 : Int) (3 : Int) w2 (0 : Int) (0 : Int)))], []) else none) := by kernel_rfl
theorem hold_case0 (ls : List D) (i w w2 : Int) : runF (envOf tab SpI3 [] [] []) true Try.f22 [.dat (.slc (.agg [.one, .one, .one, .one, .agg [.one, .one]]) ls), .dat (.int .i64 i), .dat (.int .i64 w), .dat (.int .i64 w2)] [] = FunT.run C_hold [.dat (.slc (.agg [.one, .one, .one, .one, .agg [.one, .one]]) ls), .dat (.int .i64 i), .dat (.int .i64 w), .dat (.int .i64 w2)] [] := (hold_raw0 ls i w w2).trans (by
  show _ = (cond (mv_pre ls i (1 : Int) w (0 : Int) (0 : Int) (3 : Int) w2 (0 : Int) (0 : Int)) (some (([AV.dat (D.slc (Sh.agg [Sh.one, Sh.one, Sh.one, Sh.one, Sh.agg [Sh.one, Sh.one]]) (mv_v0 ls i (1 : Int) w (0 : Int) (0 : Int) (3 : Int) w2 (0 : Int) (0 : Int))), AV.dat (D.int IntKind.i64 (mv_v1 ls i (1 : Int) w (0 : Int) (0 : Int) (3 : Int) w2 (0 : Int) (0 : Int)))], []) : Res)) none)
  generalize (mv_pre ls i (1 : Int) w (0 : Int) (0 : Int) (3 : Int) w2 (0 : Int) (0 : Int)) = z0
  cases z0 with
  | true =>
   rfl
  | false =>
   rfl
  )
theorem chold_ok : FunOk Try.prog 22 (FunT.run C_hold) := by
  refine fun_ok (E := envOf tab SpI3 [] [] []) (fz := true) (fn := Try.f22) (envOf_ok progOk SpI3_ok) (by kernel_rfl) (by kernel_rfl) (loops_none (by kernel_rfl)) ?_
  intro args σ r h
  unfold C_hold at h
  split at h
  · exact (hold_case0 _ _ _ _).trans h
  · simp [T.run_fail] at h

def sl_fr (ls : List D) (n _ _ _ _ : Int) : (Int × Nat × Nat × List D) → Frame' := fun ⟨i, m, kk, _⟩ => mkF 29 [(3, .ptr (.agg [.one, .one, .agg [.one, .one]]) 0 0 []), (5, .sref .one 1 m [] 0 kk), (8, .dat (.slc (.agg [.one, .one, .one, .one, .agg [.one, .one]]) ls)), (9, .dat (.int .i64 n)), (10, .dat (.int .i64 i))]
def sl_st (_ : List D) (_ k w a b : Int) : (Int × Nat × Nat × List D) → Store := fun ⟨_, _, _, out⟩ => [⟨.agg [.one, .one, .agg [.one, .one]], false, false, .dat (.agg [.int .i64 k, .int .i64 w, .agg [.int .i64 a, .int .i64 b]])⟩, mkDyn .one out]
def sl_step (ls : List D) (n k w a b : Int) : (Int × Nat × Nat × List D) → T ((Int × Nat × Nat × List D) ⊕ LOut) := fun ⟨i, m, kk, out⟩ => 
  .chk (!decide (i < n) || decide ((0 : Int) ≤ i) && (decide (Int.toNat i < List.length ls) && (okE (Ek.agg [Ek.bool, Ek.str, Ek.int IntKind.i64, Ek.int IntKind.i64, Ek.agg [Ek.int IntKind.i64, Ek.int IntKind.i64]]) (nthD ls (Int.toNat i)) && (!D.getB (nthD (D.getL (nthD ls (Int.toNat i))) 0) || D.eqb (D.agg [D.int IntKind.i64 k, D.int IntKind.i64 w, D.agg [D.int IntKind.i64 a, D.int IntKind.i64 b]]) (D.agg [D.int IntKind.i64 k, D.int IntKind.i64 w, D.agg [D.int IntKind.i64 a, D.int IntKind.i64 b]]) && (!(D.getI (nthD (D.getL (nthD ls (Int.toNat i))) 2) == k && (D.getI (nthD (D.getL (nthD ls (Int.toNat i))) 3) == w && (D.getI (nthD (D.getL (nthD (D.getL (nthD ls (Int.toNat i))) 4)) 0) == a && (D.getI (nthD (D.getL (nthD (D.getL (nthD ls (Int.toNat i))) 4)) 1) == b && true) && true))) || Nat.beq (List.length out) m && true && true && true && true && Nat.beq kk m && true && true && decide ((m + 1) * 8 ≤ 35184372088832)))))) (
   .br (!decide (i < n)) (.leaf (.inr ((some 0), mkF 29 [(5, AV.sref Sh.one 1 m [] 0 kk)], [{ sh := Sh.agg [Sh.one, Sh.one, Sh.agg [Sh.one, Sh.one]], dyn := false, frz := false, v := AV.dat (D.agg [D.int IntKind.i64 k, D.int IntKind.i64 w, D.agg [D.int IntKind.i64 a, D.int IntKind.i64 b]]) }, { sh := Sh.arr Sh.one 0, dyn := true, frz := false, v := AV.dat (D.arr Sh.one out) }]))) (.leaf (.inl ((IntKind.wrap IntKind.i64 (i + (1 : Int))), (bif D.getB (nthD (D.getL (nthD ls (Int.toNat i))) 0) then bif D.getI (nthD (D.getL (nthD ls (Int.toNat i))) 2) == k && (D.getI (nthD (D.getL (nthD ls (Int.toNat i))) 3) == w && (D.getI (nthD (D.getL (nthD (D.getL (nthD ls (Int.toNat i))) 4)) 0) == a && (D.getI (nthD (D.getL (nthD (D.getL (nthD ls (Int.toNat i))) 4)) 1) == b && true) && true)) then m + 1 else m else m), (bif D.getB (nthD (D.getL (nthD ls (Int.toNat i))) 0) then bif D.getI (nthD (D.getL (nthD ls (Int.toNat i))) 2) == k && (D.getI (nthD (D.getL (nthD ls (Int.toNat i))) 3) == w && (D.getI (nthD (D.getL (nthD (D.getL (nthD ls (Int.toNat i))) 4)) 0) == a && (D.getI (nthD (D.getL (nthD (D.getL (nthD ls (Int.toNat i))) 4)) 1) == b && true) && true)) then m + 1 else kk else kk), (bif D.getB (nthD (D.getL (nthD ls (Int.toNat i))) 0) then bif D.getI (nthD (D.getL (nthD ls (Int.toNat i))) 2) == k && (D.getI (nthD (D.getL (nthD ls (Int.toNat i))) 3) == w && (D.getI (nthD (D.getL (nthD (D.getL (nthD ls (Int.toNat i))) 4)) 0) == a && (D.getI (nthD (D.getL (nthD (D.getL (nthD ls (Int.toNat i))) 4)) 1) == b && true) && true)) then out ++ [D.int IntKind.i64 i] else out else out)))))
theorem sl_round (lp : Loops) (ls : List D) (n k w a b : Int) (i : Int) (m kk : Nat) (out : List D) (K : Kt) : oneRound (envOf tab SpI2 [] lp [(2, 0, [.own 5])]) Try.f32 0 (2) (mkF 29 [(3, .ptr (.agg [.one, .one, .agg [.one, .one]]) 0 0 []), (5, .sref .one 1 m [] 0 kk), (8, .dat (.slc (.agg [.one, .one, .one, .one, .agg [.one, .one]]) ls)), (9, .dat (.int .i64 n)), (10, .dat (.int .i64 i))]) ([⟨.agg [.one, .one, .agg [.one, .one]], false, false, .dat (.agg [.int .i64 k, .int .i64 w, .agg [.int .i64 a, .int .i64 b]])⟩, mkDyn .one out]) K =
  (bif decide (i < n) then 
   (bif decide ((0 : Int) ≤ i) then 
    (bif decide (Int.toNat i < List.length ls) then 
     (bif okE (Ek.agg [Ek.bool, Ek.str, Ek.int IntKind.i64, Ek.int IntKind.i64, Ek.agg [Ek.int IntKind.i64, Ek.int IntKind.i64]]) (nthD ls (Int.toNat i)) then 
      (bif D.getB (nthD (D.getL (nthD ls (Int.toNat i))) 0) then 
       (bif D.eqb (D.agg [D.int IntKind.i64 k, D.int IntKind.i64 w, D.agg [D.int IntKind.i64 a, D.int IntKind.i64 b]]) (D.agg [D.int IntKind.i64 k, D.int IntKind.i64 w, D.agg [D.int IntKind.i64 a, D.int IntKind.i64 b]]) && true then 
        (bif false != (D.getI (nthD (D.getL (nthD ls (Int.toNat i))) 2) == k && (D.getI (nthD (D.getL (nthD ls (Int.toNat i))) 3) == w && (D.getI (nthD (D.getL (nthD (D.getL (nthD ls (Int.toNat i))) 4)) 0) == a && (D.getI (nthD (D.getL (nthD (D.getL (nthD ls (Int.toNat i))) 4)) 1) == b && true) && true))) then 
         (bif Nat.beq (List.length out) m && true && true && true && true && Nat.beq kk m && true && true && decide ((m + 1) * 8 ≤ 35184372088832) then K (Exit.normal) (mkF 29 [(3, AV.ptr (Sh.agg [Sh.one, Sh.one, Sh.agg [Sh.one, Sh.one]]) 0 0 []), (5, AV.sref Sh.one 1 (m + 1) [] 0 (m + 1)), (8, AV.dat (D.slc (Sh.agg [Sh.one, Sh.one, Sh.one, Sh.one, Sh.agg [Sh.one, Sh.one]]) ls)), (9, AV.dat (D.int IntKind.i64 n)), (10, AV.dat (D.int IntKind.i64 (IntKind.wrap IntKind.i64 (i + (1 : Int))))), (11, AV.dat (D.bool (decide (i < n)))), (27, AV.dat (D.int IntKind.i64 (IntKind.wrap IntKind.i64 (i + (1 : Int)))))]) ([{ sh := Sh.agg [Sh.one, Sh.one, Sh.agg [Sh.one, Sh.one]], dyn := false, frz := false, v := AV.dat (D.agg [D.int IntKind.i64 k, D.int IntKind.i64 w, D.agg [D.int IntKind.i64 a, D.int IntKind.i64 b]]) }, { sh := Sh.arr Sh.one 0, dyn := true, frz := false, v := AV.dat (D.arr Sh.one (out ++ [D.int IntKind.i64 i])) }, { sh := Sh.agg [Sh.one, Sh.one, Sh.one, Sh.one, Sh.agg [Sh.one, Sh.one]], dyn := false, frz := false, v := AV.dat (D.agg [D.bool (D.getB (nthD (D.getL (nthD ls (Int.toNat i))) 0)), D.str (D.getS (nthD (D.getL (nthD ls (Int.toNat i))) 1)), D.int IntKind.i64 (D.getI (nthD (D.getL (nthD ls (Int.toNat i))) 2)), D.int IntKind.i64 (D.getI (nthD (D.getL (nthD ls (Int.toNat i))) 3)), D.agg [D.int IntKind.i64 (D.getI (nthD (D.getL (nthD (D.getL (nthD ls (Int.toNat i))) 4)) 0)), D.int IntKind.i64 (D.getI (nthD (D.getL (nthD (D.getL (nthD ls (Int.toNat i))) 4)) 1))]]) }, { sh := Sh.arr Sh.one 0, dyn := true, frz := false, v := AV.dat (D.arr Sh.one [D.int IntKind.i64 i]) }]) else none) else K (Exit.normal) (mkF 29 [(3, AV.ptr (Sh.agg [Sh.one, Sh.one, Sh.agg [Sh.one, Sh.one]]) 0 0 []), (5, AV.sref Sh.one 1 m [] 0 kk), (8, AV.dat (D.slc (Sh.agg [Sh.one, Sh.one, Sh.one, Sh.one, Sh.agg [Sh.one, Sh.one]]) ls)), (9, AV.dat (D.int IntKind.i64 n)), (10, AV.dat (D.int IntKind.i64 (IntKind.wrap IntKind.i64 (i + (1 : Int))))), (11, AV.dat (D.bool (decide (i < n)))), (27, AV.dat (D.int IntKind.i64 (IntKind.wrap IntKind.i64 (i + (1 : Int)))))]) ([{ sh := Sh.agg [Sh.one, Sh.one, Sh.agg [Sh.one, Sh.one]], dyn := false, frz := false, v := AV.dat (D.agg [D.int IntKind.i64 k, D.int IntKind.i64 w, D.agg [D.int IntKind.i64 a, D.int IntKind.i64 b]]) }, { sh := Sh.arr Sh.one 0, dyn := true, frz := false, v := AV.dat (D.arr Sh.one out) }, { sh := Sh.agg [Sh.one, Sh.one, Sh.one, Sh.one, Sh.agg [Sh.one, Sh.one]], dyn := false, frz := false, v := AV.dat (D.agg [D.bool (D.getB (nthD (D.getL (nthD ls (Int.toNat i))) 0)), D.str (D.getS (nthD (D.getL (nthD ls (Int.toNat i))) 1)), D.int IntKind.i64 (D.getI (nthD (D.getL (nthD ls (Int.toNat i))) 2)), D.int IntKind.i64 (D.getI (nthD (D.getL (nthD ls (Int.toNat i))) 3)), D.agg [D.int IntKind.i64 (D.getI (nthD (D.getL (nthD (D.getL (nthD ls (Int.toNat i))) 4)) 0)), D.int IntKind.i64 (D.getI (nthD (D.getL (nthD (D.getL (nthD ls (Int.toNat i))) 4)) 1))]]) }])) else none) else K (Exit.normal) (mkF 29 [(3, AV.ptr (Sh.agg [Sh.one, Sh.one, Sh.agg [Sh.one, Sh.one]]) 0 0 []), (5, AV.sref Sh.one 1 m [] 0 kk), (8, AV.dat (D.slc (Sh.agg [Sh.one, Sh.one, Sh.one, Sh.one, Sh.agg [Sh.one, Sh.one]]) ls)), (9, AV.dat (D.int IntKind.i64 n)), (10, AV.dat (D.int IntKind.i64 (IntKind.wrap IntKind.i64 (i + (1 : Int))))), (11, AV.dat (D.bool (decide (i < n)))), (27, AV.dat (D.int IntKind.i64 (IntKind.wrap IntKind.i64 (i + (1 : Int)))))]) ([{ sh := Sh.agg [Sh.one, Sh.one, Sh.agg [Sh.one, Sh.one]], dyn := false, frz := false, v := AV.dat (D.agg [D.int IntKind.i64 k, D.int IntKind.i64 w, D.agg [D.int IntKind.i64 a, D.int IntKind.i64 b]]) }, { sh := Sh.arr Sh.one 0, dyn := true, frz := false, v := AV.dat (D.arr Sh.one out) }, { sh := Sh.agg [Sh.one, Sh.one, Sh.one, Sh.one, Sh.agg [Sh.one, Sh.one]], dyn := false, frz := false, v := AV.dat (D.agg [D.bool (D.getB (nthD (D.getL (nthD ls (Int.toNat i))) 0)), D.str (D.getS (nthD (D.getL (nthD ls (Int.toNat i))) 1)), D.int IntKind.i64 (D.getI (nthD (D.getL (nthD ls (Int.toNat i))) 2)), D.int IntKind.i64 (D.getI (nthD (D.getL (nthD ls (Int.toNat i))) 3)), D.agg [D.int IntKind.i64 (D.getI (nthD (D.getL (nthD (D.getL (nthD ls (Int.toNat i))) 4)) 0)), D.int IntKind.i64 (D.getI (nthD (D.getL (nthD (D.getL (nthD ls (Int.toNat i))) 4)) 1))]]) }])) else none) else none) else none) else K (Exit.exit 0) (mkF 29 [(5, AV.sref Sh.one 1 m [] 0 kk)]) ([{ sh := Sh.agg [Sh.one, Sh.one, Sh.agg [Sh.one, Sh.one]], dyn := false, frz := false, v := AV.dat (D.agg [D.int IntKind.i64 k, D.int IntKind.i64 w, D.agg [D.int IntKind.i64 a, D.int IntKind.i64 b]]) }, { sh := Sh.arr Sh.one 0, dyn := true, frz := false, v := AV.dat (D.arr Sh.one out) }])) := by kernel_rfl
theorem sl_hr (lp : Loops) (ls : List D) (n k w a b : Int) : ∀ (sA : (Int × Nat × Nat × List D)) (K : Kt) (N : (Int × Nat × Nat × List D) → Option Res), (∀ sB fr' σ', cleanF (liveAt Try.f32 0) 0 fr' = sl_fr ls n k w a b sB → trim (2) (sl_fr ls n k w a b sB) σ' = sl_st ls n k w a b sB → K .normal fr' σ' = N sB) →
    oneRound (envOf tab SpI2 [] lp [(2, 0, [.own 5])]) Try.f32 0 (2) (sl_fr ls n k w a b sA) (sl_st ls n k w a b sA) K = (sl_step ls n k w a b sA).k (LK K N) := by
  intro sA K N hN
  obtain ⟨i, m, kk, out⟩ := sA
  refine (sl_round lp ls n k w a b i m kk out K).trans ?_
  show _ = T.k ((
  .chk (!decide (i < n) || decide ((0 : Int) ≤ i) && (decide (Int.toNat i < List.length ls) && (okE (Ek.agg [Ek.bool, Ek.str, Ek.int IntKind.i64, Ek.int IntKind.i64, Ek.agg [Ek.int IntKind.i64, Ek.int IntKind.i64]]) (nthD ls (Int.toNat i)) && (!D.getB (nthD (D.getL (nthD ls (Int.toNat i))) 0) || D.eqb (D.agg [D.int IntKind.i64 k, D.int IntKind.i64 w, D.agg [D.int IntKind.i64 a, D.int IntKind.i64 b]]) (D.agg [D.int IntKind.i64 k, D.int IntKind.i64 w, D.agg [D.int IntKind.i64 a, D.int IntKind.i64 b]]) && (!(D.getI (nthD (D.getL (nthD ls (Int.toNat i))) 2) == k && (D.getI (nthD (D.getL (nthD ls (Int.toNat i))) 3) == w && (D.getI (nthD (D.getL (nthD (D.getL (nthD ls (Int.toNat i))) 4)) 0) == a && (D.getI (nthD (D.getL (nthD (D.getL (nthD ls (Int.toNat i))) 4)) 1) == b && true) && true))) || Nat.beq (List.length out) m && true && true && true && true && Nat.beq kk m && true && true && decide ((m + 1) * 8 ≤ 35184372088832)))))) (
   .br (!decide (i < n)) (.leaf (.inr ((some 0), mkF 29 [(5, AV.sref Sh.one 1 m [] 0 kk)], [{ sh := Sh.agg [Sh.one, Sh.one, Sh.agg [Sh.one, Sh.one]], dyn := false, frz := false, v := AV.dat (D.agg [D.int IntKind.i64 k, D.int IntKind.i64 w, D.agg [D.int IntKind.i64 a, D.int IntKind.i64 b]]) }, { sh := Sh.arr Sh.one 0, dyn := true, frz := false, v := AV.dat (D.arr Sh.one out) }]))) (.leaf (.inl ((IntKind.wrap IntKind.i64 (i + (1 : Int))), (bif D.getB (nthD (D.getL (nthD ls (Int.toNat i))) 0) then bif D.getI (nthD (D.getL (nthD ls (Int.toNat i))) 2) == k && (D.getI (nthD (D.getL (nthD ls (Int.toNat i))) 3) == w && (D.getI (nthD (D.getL (nthD (D.getL (nthD ls (Int.toNat i))) 4)) 0) == a && (D.getI (nthD (D.getL (nthD (D.getL (nthD ls (Int.toNat i))) 4)) 1) == b && true) && true)) then m + 1 else m else m), (bif D.getB (nthD (D.getL (nthD ls (Int.toNat i))) 0) then bif D.getI (nthD (D.getL (nthD ls (Int.toNat i))) 2) == k && (D.getI (nthD (D.getL (nthD ls (Int.toNat i))) 3) == w && (D.getI (nthD (D.getL (nthD (D.getL (nthD ls (Int.toNat i))) 4)) 0) == a && (D.getI (nthD (D.getL (nthD (D.getL (nthD ls (Int.toNat i))) 4)) 1) == b && true) && true)) then m + 1 else kk else kk), (bif D.getB (nthD (D.getL (nthD ls (Int.toNat i))) 0) then bif D.getI (nthD (D.getL (nthD ls (Int.toNat i))) 2) == k && (D.getI (nthD (D.getL (nthD ls (Int.toNat i))) 3) == w && (D.getI (nthD (D.getL (nthD (D.getL (nthD ls (Int.toNat i))) 4)) 0) == a && (D.getI (nthD (D.getL (nthD (D.getL (nthD ls (Int.toNat i))) 4)) 1) == b && true) && true)) then out ++ [D.int IntKind.i64 i] else out else out)))))) : T ((Int × Nat × Nat × List D) ⊕ LOut)) (LK K N)
  generalize (D.getI (nthD (D.getL (nthD ls (Int.toNat i))) 2) == k && (D.getI (nthD (D.getL (nthD ls (Int.toNat i))) 3) == w && (D.getI (nthD (D.getL (nthD (D.getL (nthD ls (Int.toNat i))) 4)) 0) == a && (D.getI (nthD (D.getL (nthD (D.getL (nthD ls (Int.toNat i))) 4)) 1) == b && true) && true))) = z0
  generalize (Nat.beq (List.length out) m && true && true && true && true && Nat.beq kk m && true && true && decide ((m + 1) * 8 ≤ 35184372088832)) = z1
  generalize (D.eqb (D.agg [D.int IntKind.i64 k, D.int IntKind.i64 w, D.agg [D.int IntKind.i64 a, D.int IntKind.i64 b]]) (D.agg [D.int IntKind.i64 k, D.int IntKind.i64 w, D.agg [D.int IntKind.i64 a, D.int IntKind.i64 b]])) = z2
  generalize (okE (Ek.agg [Ek.bool, Ek.str, Ek.int IntKind.i64, Ek.int IntKind.i64, Ek.agg [Ek.int IntKind.i64, Ek.int IntKind.i64]]) (nthD ls (Int.toNat i))) = z3
  generalize (decide ((0 : Int) ≤ i)) = z4
  generalize (decide (Int.toNat i < List.length ls)) = z5
  generalize (D.getB (nthD (D.getL (nthD ls (Int.toNat i))) 0)) = z6
  generalize (decide (i < n)) = z7
  cases z7 with
  | true =>
   cases z4 with
   | true =>
    cases z5 with
    | true =>
     cases z3 with
     | true =>
      cases z6 with
      | true =>
       cases z2 with
       | true =>
        cases z0 with
        | true =>
         cases z1 with
         | true =>
          exact hN _ _ _ (by kernel_rfl) (by kernel_rfl)
         | false =>
          rfl
        | false =>
         exact hN _ _ _ (by kernel_rfl) (by kernel_rfl)
       | false =>
        rfl
      | false =>
       exact hN _ _ _ (by kernel_rfl) (by kernel_rfl)
     | false =>
      rfl
    | false =>
     rfl
   | false =>
    rfl
  | false =>
   rfl
theorem sl_enter (ls : List D) (n k w a b : Int) (i : Int) (m kk : Nat) (out : List D) (fr : Frame') (hl : Nat.beq fr.length 29 = true) (g3 : fr.getD 3 .undef = AV.ptr (Sh.agg [Sh.one, Sh.one, Sh.agg [Sh.one, Sh.one]]) 0 0 []) (g5 : fr.getD 5 .undef = AV.sref Sh.one 1 m [] 0 kk) (g8 : fr.getD 8 .undef = AV.dat (D.slc (Sh.agg [Sh.one, Sh.one, Sh.one, Sh.one, Sh.agg [Sh.one, Sh.one]]) ls)) (g9 : fr.getD 9 .undef = AV.dat (D.int IntKind.i64 n)) (g10 : fr.getD 10 .undef = AV.dat (D.int IntKind.i64 i)) : cleanF (liveAt Try.f32 0) 0 fr = sl_fr ls n k w a b (i, m, kk, out) := by
  have e : liveAt Try.f32 0 = [9, 8, 3, 10, 5] := by kernel_rfl
  rw [clean_mk (Nat.eq_of_beq_eq_true hl), e]
  show mkF 29 [(9, fr.getD 9 .undef), (8, fr.getD 8 .undef), (3, fr.getD 3 .undef), (10, fr.getD 10 .undef), (5, fr.getD 5 .undef)] = _
  rw [g9, g8, g3, g10, g5]
  kernel_rfl


end Go.Proofs.Ytnegedbjcjfndaa
