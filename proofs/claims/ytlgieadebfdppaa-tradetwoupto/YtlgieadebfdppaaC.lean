/- Seat 18: Open, Get, Shut, Right. -/
import Derived.Test.YtlgieadebfdppaaB
namespace Go.Proofs.Ytlgieadebfdppaa
open Go.AX
set_option maxRecDepth 100000

abbrev SpC : Specs := [(9, C_right), (13, C_irw), (16, C_may), (17, C_iad), (19, C_ipt), (24, C_ihas)]
theorem SpC_ok : SpecsOk Try.prog SpC := .cons cright_ok (.cons cirw_ok (.cons cmay_ok (.cons ciad_ok (.cons cipt_ok (.cons cihas_ok (.nil _))))))
def opn_v0 (ls : List D) (a : Int) (b : Int) (gc : Int) (ga : Int) (gi : Int) (wc : Int) (wa : Int) (wi : Int) : List D := bif right_v0 ls then bif may_v0 a b gc ga gi wc wa wi then iad_v0 ls true a b gc ga gi wc wa wi else [] else []
def opn_v1 (ls : List D) (a : Int) (b : Int) (gc : Int) (ga : Int) (gi : Int) (wc : Int) (wa : Int) (wi : Int) : Int := bif right_v0 ls then bif may_v0 a b gc ga gi wc wa wi then iad_v1 ls else 0 else 0
def opn_v2 (ls : List D) (a : Int) (b : Int) (gc : Int) (ga : Int) (gi : Int) (wc : Int) (wa : Int) (wi : Int) : Int := bif right_v0 ls then bif may_v0 a b gc ga gi wc wa wi then iad_v2 ls else 1 else 1
def opn_pre (ls : List D) (a : Int) (b : Int) (gc : Int) (ga : Int) (gi : Int) (wc : Int) (wa : Int) (wi : Int) : Bool := iw_okL ls && (!right_v0 ls || (!may_v0 a b gc ga gi wc wa wi || iof_pre ls && (D.eqb (D.agg [D.bool true, D.int .i64 a, D.int .i64 b, D.agg [D.int .i64 gc, D.int IntKind.u64 ga, D.int .i64 gi], D.agg [D.int .i64 wc, D.int IntKind.u64 wa, D.int .i64 wi]]) (D.agg [D.bool true, D.int .i64 a, D.int .i64 b, D.agg [D.int .i64 gc, D.int IntKind.u64 ga, D.int .i64 gi], D.agg [D.int .i64 wc, D.int IntKind.u64 wa, D.int .i64 wi]]) && iad_pre ls true a b gc ga gi wc wa wi)))
def C_opn : FunT := fun args σ => match args, σ with
  | [AV.dat (D.slc (Sh.agg [Sh.one, Sh.one, Sh.one, Sh.agg [Sh.one, Sh.one, Sh.one], Sh.agg [Sh.one, Sh.one, Sh.one]]) ls), AV.dat (D.agg [D.bool _, D.int IntKind.i64 a, D.int IntKind.i64 b, D.agg [D.int IntKind.i64 gc, D.int IntKind.u64 ga, D.int IntKind.i64 gi], D.agg [D.int IntKind.i64 wc, D.int IntKind.u64 wa, D.int IntKind.i64 wi]])], [] => .chk ((opn_pre ls a b gc ga gi wc wa wi)) (.leaf ([AV.dat (D.slc (s27) (opn_v0 ls a b gc ga gi wc wa wi)), AV.dat (D.int IntKind.i64 (opn_v1 ls a b gc ga gi wc wa wi)), AV.dat (D.int IntKind.i64 (opn_v2 ls a b gc ga gi wc wa wi))], []))
  | _, _ => .fail
theorem opn_raw0 (ls : List D) (u : Bool) (a b gc ga gi wc wa wi : Int) : runF (envOf tab SpC [] [] []) true Try.f6 [.dat (.slc s27 ls), .dat (.agg [.bool u, .int .i64 a, .int .i64 b, .agg [.int .i64 gc, .int .u64 ga, .int .i64 gi], .agg [.int .i64 wc, .int .u64 wa, .int .i64 wi]])] [] =
  (bif iw_okL ls then 
   (bif !right_v0 ls then some ([.dat (.slc (s27) []), .dat (.int .i64 0), .dat (.int .i64 1)], []) else 
    (bif !may_v0 a b gc ga gi wc wa wi then some ([.dat (.slc (s27) []), .dat (.int .i64 0), .dat (.int .i64 1)], []) else 
     (bif iof_pre ls then 
      (bif D.eqb (D.agg [D.bool true, D.int .i64 a, D.int .i64 b, D.agg [D.int .i64 gc, D.int IntKind.u64 ga, D.int .i64 gi], D.agg [D.int .i64 wc, D.int IntKind.u64 wa, D.int .i64 wi]]) (D.agg [D.bool true, D.int .i64 a, D.int .i64 b, D.agg [D.int .i64 gc, D.int IntKind.u64 ga, D.int .i64 gi], D.agg [D.int .i64 wc, D.int IntKind.u64 wa, D.int .i64 wi]]) && true then 
       (bif iad_pre ls true a b gc ga gi wc wa wi then some ([.dat (.slc (s27) (iad_v0 ls true a b gc ga gi wc wa wi)), .dat (.int .i64 (iad_v1 ls)), .dat (.int .i64 (iad_v2 ls))], []) else none) else none) else none))) else none) := by kernel_rfl
theorem opn_case0 (ls : List D) (u : Bool) (a b gc ga gi wc wa wi : Int) : runF (envOf tab SpC [] [] []) true Try.f6 [.dat (.slc s27 ls), .dat (.agg [.bool u, .int .i64 a, .int .i64 b, .agg [.int .i64 gc, .int .u64 ga, .int .i64 gi], .agg [.int .i64 wc, .int .u64 wa, .int .i64 wi]])] [] = FunT.run C_opn [.dat (.slc s27 ls), .dat (.agg [.bool u, .int .i64 a, .int .i64 b, .agg [.int .i64 gc, .int .u64 ga, .int .i64 gi], .agg [.int .i64 wc, .int .u64 wa, .int .i64 wi]])] [] := (opn_raw0 ls u a b gc ga gi wc wa wi).trans (by
  show _ = (cond (iw_okL ls && (!right_v0 ls || (!may_v0 a b gc ga gi wc wa wi || iof_pre ls && (D.eqb (D.agg [D.bool true, D.int .i64 a, D.int .i64 b, D.agg [D.int .i64 gc, D.int IntKind.u64 ga, D.int .i64 gi], D.agg [D.int .i64 wc, D.int IntKind.u64 wa, D.int .i64 wi]]) (D.agg [D.bool true, D.int .i64 a, D.int .i64 b, D.agg [D.int .i64 gc, D.int IntKind.u64 ga, D.int .i64 gi], D.agg [D.int .i64 wc, D.int IntKind.u64 wa, D.int .i64 wi]]) && iad_pre ls true a b gc ga gi wc wa wi)))) (some (([.dat (.slc (s27) (bif right_v0 ls then bif may_v0 a b gc ga gi wc wa wi then iad_v0 ls true a b gc ga gi wc wa wi else [] else [])), .dat (.int .i64 (bif right_v0 ls then bif may_v0 a b gc ga gi wc wa wi then iad_v1 ls else 0 else 0)), .dat (.int .i64 (bif right_v0 ls then bif may_v0 a b gc ga gi wc wa wi then iad_v2 ls else 1 else 1))], []) : Res)) none)
  generalize (D.eqb (D.agg [D.bool true, D.int .i64 a, D.int .i64 b, D.agg [D.int .i64 gc, D.int IntKind.u64 ga, D.int .i64 gi], D.agg [D.int .i64 wc, D.int IntKind.u64 wa, D.int .i64 wi]]) (D.agg [D.bool true, D.int .i64 a, D.int .i64 b, D.agg [D.int .i64 gc, D.int IntKind.u64 ga, D.int .i64 gi], D.agg [D.int .i64 wc, D.int IntKind.u64 wa, D.int .i64 wi]])) = z0
  generalize (iad_pre ls true a b gc ga gi wc wa wi) = z1
  generalize (may_v0 a b gc ga gi wc wa wi) = z2
  generalize (iw_okL ls) = z3
  generalize (iof_pre ls) = z4
  generalize (right_v0 ls) = z5
  cases z3 with
  | true =>
   cases z5 with
   | true =>
    cases z2 with
    | true =>
     cases z4 with
     | true =>
      cases z0 with
      | true =>
       cases z1 with
       | true =>
        rfl
       | false =>
        rfl
      | false =>
       rfl
     | false =>
      rfl
    | false =>
     rfl
   | false =>
    rfl
  | false =>
   rfl
  )
theorem copn_ok : FunOk Try.prog 6 (FunT.run C_opn) := by
  refine fun_ok (E := envOf tab SpC [] [] []) (fz := true) (fn := Try.f6) (envOf_ok progOk SpC_ok) (by kernel_rfl) (by kernel_rfl) (loops_none (by kernel_rfl)) ?_
  intro args σ r h
  unfold C_opn at h
  split at h
  · exact (opn_case0 _ _ _ _ _ _ _ _ _ _).trans h
  · simp [T.run_fail] at h

def gett_v0 (ls : List D) (i : Int) (w : Int) : Bool := ihas_v0 ls i && bif D.getI (nthD (D.getL (nthD ls (Int.toNat i))) 1) != w then !D.getI (nthD (D.getL (nthD ls (Int.toNat i))) 2) != w && D.getB (nthD (D.getL (nthD ls (Int.toNat i))) 0) else D.getB (nthD (D.getL (nthD ls (Int.toNat i))) 0)
def gett_v1 (ls : List D) (i : Int) (w : Int) : Int := bif ihas_v0 ls i then bif D.getI (nthD (D.getL (nthD ls (Int.toNat i))) 1) != w then bif D.getI (nthD (D.getL (nthD ls (Int.toNat i))) 2) != w then 0 else D.getI (nthD (D.getL (nthD ls (Int.toNat i))) 1) else D.getI (nthD (D.getL (nthD ls (Int.toNat i))) 1) else 0
def gett_v2 (ls : List D) (i : Int) (w : Int) : Int := bif ihas_v0 ls i then bif D.getI (nthD (D.getL (nthD ls (Int.toNat i))) 1) != w then bif D.getI (nthD (D.getL (nthD ls (Int.toNat i))) 2) != w then 0 else D.getI (nthD (D.getL (nthD ls (Int.toNat i))) 2) else D.getI (nthD (D.getL (nthD ls (Int.toNat i))) 2) else 0
def gett_v3 (ls : List D) (i : Int) (w : Int) : Int := bif ihas_v0 ls i then bif D.getI (nthD (D.getL (nthD ls (Int.toNat i))) 1) != w then bif D.getI (nthD (D.getL (nthD ls (Int.toNat i))) 2) != w then 0 else D.getI (nthD (D.getL (nthD (D.getL (nthD ls (Int.toNat i))) 3)) 0) else D.getI (nthD (D.getL (nthD (D.getL (nthD ls (Int.toNat i))) 3)) 0) else 0
def gett_v4 (ls : List D) (i : Int) (w : Int) : Int := bif ihas_v0 ls i then bif D.getI (nthD (D.getL (nthD ls (Int.toNat i))) 1) != w then bif D.getI (nthD (D.getL (nthD ls (Int.toNat i))) 2) != w then 0 else D.getI (nthD (D.getL (nthD (D.getL (nthD ls (Int.toNat i))) 3)) 1) else D.getI (nthD (D.getL (nthD (D.getL (nthD ls (Int.toNat i))) 3)) 1) else 0
def gett_v5 (ls : List D) (i : Int) (w : Int) : Int := bif ihas_v0 ls i then bif D.getI (nthD (D.getL (nthD ls (Int.toNat i))) 1) != w then bif D.getI (nthD (D.getL (nthD ls (Int.toNat i))) 2) != w then 0 else D.getI (nthD (D.getL (nthD (D.getL (nthD ls (Int.toNat i))) 3)) 2) else D.getI (nthD (D.getL (nthD (D.getL (nthD ls (Int.toNat i))) 3)) 2) else 0
def gett_v6 (ls : List D) (i : Int) (w : Int) : Int := bif ihas_v0 ls i then bif D.getI (nthD (D.getL (nthD ls (Int.toNat i))) 1) != w then bif D.getI (nthD (D.getL (nthD ls (Int.toNat i))) 2) != w then 0 else D.getI (nthD (D.getL (nthD (D.getL (nthD ls (Int.toNat i))) 4)) 0) else D.getI (nthD (D.getL (nthD (D.getL (nthD ls (Int.toNat i))) 4)) 0) else 0
def gett_v7 (ls : List D) (i : Int) (w : Int) : Int := bif ihas_v0 ls i then bif D.getI (nthD (D.getL (nthD ls (Int.toNat i))) 1) != w then bif D.getI (nthD (D.getL (nthD ls (Int.toNat i))) 2) != w then 0 else D.getI (nthD (D.getL (nthD (D.getL (nthD ls (Int.toNat i))) 4)) 1) else D.getI (nthD (D.getL (nthD (D.getL (nthD ls (Int.toNat i))) 4)) 1) else 0
def gett_v8 (ls : List D) (i : Int) (w : Int) : Int := bif ihas_v0 ls i then bif D.getI (nthD (D.getL (nthD ls (Int.toNat i))) 1) != w then bif D.getI (nthD (D.getL (nthD ls (Int.toNat i))) 2) != w then 0 else D.getI (nthD (D.getL (nthD (D.getL (nthD ls (Int.toNat i))) 4)) 2) else D.getI (nthD (D.getL (nthD (D.getL (nthD ls (Int.toNat i))) 4)) 2) else 0
def gett_v9 (ls : List D) (i : Int) (w : Int) : Int := bif ihas_v0 ls i then bif D.getI (nthD (D.getL (nthD ls (Int.toNat i))) 1) != w then bif D.getI (nthD (D.getL (nthD ls (Int.toNat i))) 2) != w then 3 else 0 else 0 else 3
def gett_pre (ls : List D) (i : Int) : Bool := iof_pre ls && (ihas_pre ls i && (!ihas_v0 ls i || decide (0 ≤ i) && (decide (Int.toNat i < List.length ls) && okE (k27) (nthD ls (Int.toNat i)))))
def C_gett : FunT := fun args σ => match args, σ with
  | [AV.dat (D.slc (Sh.agg [Sh.one, Sh.one, Sh.one, Sh.agg [Sh.one, Sh.one, Sh.one], Sh.agg [Sh.one, Sh.one, Sh.one]]) ls), AV.dat (D.int IntKind.i64 i), AV.dat (D.int IntKind.i64 w)], [] => .chk ((gett_pre ls i)) (.leaf ([AV.dat (D.agg [D.bool (gett_v0 ls i w), D.int IntKind.i64 (gett_v1 ls i w), D.int IntKind.i64 (gett_v2 ls i w), D.agg [D.int IntKind.i64 (gett_v3 ls i w), D.int IntKind.u64 (gett_v4 ls i w), D.int IntKind.i64 (gett_v5 ls i w)], D.agg [D.int IntKind.i64 (gett_v6 ls i w), D.int IntKind.u64 (gett_v7 ls i w), D.int IntKind.i64 (gett_v8 ls i w)]]), AV.dat (D.int IntKind.i64 (gett_v9 ls i w))], []))
  | _, _ => .fail
theorem gett_raw0 (ls : List D) (i w : Int) : runF (envOf tab SpC [] [] []) true Try.f11 [.dat (.slc s27 ls), .dat (.int .i64 i), .dat (.int .i64 w)] [] =
  (bif iof_pre ls then 
   (bif ihas_pre ls i then 
    (bif !ihas_v0 ls i then some ([.dat (.agg [D.bool false, D.int .i64 0, D.int .i64 0, D.agg [D.int .i64 0, D.int IntKind.u64 0, D.int .i64 0], D.agg [D.int .i64 0, D.int IntKind.u64 0, D.int .i64 0]]), .dat (.int .i64 3)], []) else 
     (bif decide (0 ≤ i) then 
      (bif decide (Int.toNat i < List.length ls) then 
       (bif okE (k27) (nthD ls (Int.toNat i)) then 
        (bif D.getI (nthD (D.getL (nthD ls (Int.toNat i))) 1) != w then 
         (bif decide (0 ≤ i) then 
          (bif decide (Int.toNat i < List.length ls) then 
           (bif okE (k27) (nthD ls (Int.toNat i)) then 
            (bif D.getI (nthD (D.getL (nthD ls (Int.toNat i))) 2) != w then some ([.dat (.agg [D.bool false, D.int .i64 0, D.int .i64 0, D.agg [D.int .i64 0, D.int IntKind.u64 0, D.int .i64 0], D.agg [D.int .i64 0, D.int IntKind.u64 0, D.int .i64 0]]), .dat (.int .i64 3)], []) else 
             (bif decide (0 ≤ i) then 
              (bif decide (Int.toNat i < List.length ls) then 
               (bif okE (k27) (nthD ls (Int.toNat i)) then some ([.dat (.agg [D.bool (D.getB (nthD (D.getL (nthD ls (Int.toNat i))) 0)), D.int .i64 (D.getI (nthD (D.getL (nthD ls (Int.toNat i))) 1)), D.int .i64 (D.getI (nthD (D.getL (nthD ls (Int.toNat i))) 2)), D.agg [D.int .i64 (D.getI (nthD (D.getL (nthD (D.getL (nthD ls (Int.toNat i))) 3)) 0)), D.int IntKind.u64 (D.getI (nthD (D.getL (nthD (D.getL (nthD ls (Int.toNat i))) 3)) 1)), D.int .i64 (D.getI (nthD (D.getL (nthD (D.getL (nthD ls (Int.toNat i))) 3)) 2))], D.agg [D.int .i64 (D.getI (nthD (D.getL (nthD (D.getL (nthD ls (Int.toNat i))) 4)) 0)), D.int IntKind.u64 (D.getI (nthD (D.getL (nthD (D.getL (nthD ls (Int.toNat i))) 4)) 1)), D.int .i64 (D.getI (nthD (D.getL (nthD (D.getL (nthD ls (Int.toNat i))) 4)) 2))]]), .dat (.int .i64 0)], []) else none) else none) else none)) else none) else none) else none) else 
         (bif decide (0 ≤ i) then 
          (bif decide (Int.toNat i < List.length ls) then 
           (bif okE (k27) (nthD ls (Int.toNat i)) then some ([.dat (.agg [D.bool (D.getB (nthD (D.getL (nthD ls (Int.toNat i))) 0)), D.int .i64 (D.getI (nthD (D.getL (nthD ls (Int.toNat i))) 1)), D.int .i64 (D.getI (nthD (D.getL (nthD ls (Int.toNat i))) 2)), D.agg [D.int .i64 (D.getI (nthD (D.getL (nthD (D.getL (nthD ls (Int.toNat i))) 3)) 0)), D.int IntKind.u64 (D.getI (nthD (D.getL (nthD (D.getL (nthD ls (Int.toNat i))) 3)) 1)), D.int .i64 (D.getI (nthD (D.getL (nthD (D.getL (nthD ls (Int.toNat i))) 3)) 2))], D.agg [D.int .i64 (D.getI (nthD (D.getL (nthD (D.getL (nthD ls (Int.toNat i))) 4)) 0)), D.int IntKind.u64 (D.getI (nthD (D.getL (nthD (D.getL (nthD ls (Int.toNat i))) 4)) 1)), D.int .i64 (D.getI (nthD (D.getL (nthD (D.getL (nthD ls (Int.toNat i))) 4)) 2))]]), .dat (.int .i64 0)], []) else none) else none) else none)) else none) else none) else none)) else none) else none) := by kernel_rfl
theorem gett_case0 (ls : List D) (i w : Int) : runF (envOf tab SpC [] [] []) true Try.f11 [.dat (.slc s27 ls), .dat (.int .i64 i), .dat (.int .i64 w)] [] = FunT.run C_gett [.dat (.slc s27 ls), .dat (.int .i64 i), .dat (.int .i64 w)] [] := (gett_raw0 ls i w).trans (by
  show _ = (cond (iof_pre ls && (ihas_pre ls i && (!ihas_v0 ls i || decide (0 ≤ i) && (decide (Int.toNat i < List.length ls) && okE (k27) (nthD ls (Int.toNat i)))))) (some (([.dat (.agg [D.bool (ihas_v0 ls i && bif D.getI (nthD (D.getL (nthD ls (Int.toNat i))) 1) != w then !D.getI (nthD (D.getL (nthD ls (Int.toNat i))) 2) != w && D.getB (nthD (D.getL (nthD ls (Int.toNat i))) 0) else D.getB (nthD (D.getL (nthD ls (Int.toNat i))) 0)), D.int .i64 (bif ihas_v0 ls i then bif D.getI (nthD (D.getL (nthD ls (Int.toNat i))) 1) != w then bif D.getI (nthD (D.getL (nthD ls (Int.toNat i))) 2) != w then 0 else D.getI (nthD (D.getL (nthD ls (Int.toNat i))) 1) else D.getI (nthD (D.getL (nthD ls (Int.toNat i))) 1) else 0), D.int .i64 (bif ihas_v0 ls i then bif D.getI (nthD (D.getL (nthD ls (Int.toNat i))) 1) != w then bif D.getI (nthD (D.getL (nthD ls (Int.toNat i))) 2) != w then 0 else D.getI (nthD (D.getL (nthD ls (Int.toNat i))) 2) else D.getI (nthD (D.getL (nthD ls (Int.toNat i))) 2) else 0), D.agg [D.int .i64 (bif ihas_v0 ls i then bif D.getI (nthD (D.getL (nthD ls (Int.toNat i))) 1) != w then bif D.getI (nthD (D.getL (nthD ls (Int.toNat i))) 2) != w then 0 else D.getI (nthD (D.getL (nthD (D.getL (nthD ls (Int.toNat i))) 3)) 0) else D.getI (nthD (D.getL (nthD (D.getL (nthD ls (Int.toNat i))) 3)) 0) else 0), D.int IntKind.u64 (bif ihas_v0 ls i then bif D.getI (nthD (D.getL (nthD ls (Int.toNat i))) 1) != w then bif D.getI (nthD (D.getL (nthD ls (Int.toNat i))) 2) != w then 0 else D.getI (nthD (D.getL (nthD (D.getL (nthD ls (Int.toNat i))) 3)) 1) else D.getI (nthD (D.getL (nthD (D.getL (nthD ls (Int.toNat i))) 3)) 1) else 0), D.int .i64 (bif ihas_v0 ls i then bif D.getI (nthD (D.getL (nthD ls (Int.toNat i))) 1) != w then bif D.getI (nthD (D.getL (nthD ls (Int.toNat i))) 2) != w then 0 else D.getI (nthD (D.getL (nthD (D.getL (nthD ls (Int.toNat i))) 3)) 2) else D.getI (nthD (D.getL (nthD (D.getL (nthD ls (Int.toNat i))) 3)) 2) else 0)], D.agg [D.int .i64 (bif ihas_v0 ls i then bif D.getI (nthD (D.getL (nthD ls (Int.toNat i))) 1) != w then bif D.getI (nthD (D.getL (nthD ls (Int.toNat i))) 2) != w then 0 else D.getI (nthD (D.getL (nthD (D.getL (nthD ls (Int.toNat i))) 4)) 0) else D.getI (nthD (D.getL (nthD (D.getL (nthD ls (Int.toNat i))) 4)) 0) else 0), D.int IntKind.u64 (bif ihas_v0 ls i then bif D.getI (nthD (D.getL (nthD ls (Int.toNat i))) 1) != w then bif D.getI (nthD (D.getL (nthD ls (Int.toNat i))) 2) != w then 0 else D.getI (nthD (D.getL (nthD (D.getL (nthD ls (Int.toNat i))) 4)) 1) else D.getI (nthD (D.getL (nthD (D.getL (nthD ls (Int.toNat i))) 4)) 1) else 0), D.int .i64 (bif ihas_v0 ls i then bif D.getI (nthD (D.getL (nthD ls (Int.toNat i))) 1) != w then bif D.getI (nthD (D.getL (nthD ls (Int.toNat i))) 2) != w then 0 else D.getI (nthD (D.getL (nthD (D.getL (nthD ls (Int.toNat i))) 4)) 2) else D.getI (nthD (D.getL (nthD (D.getL (nthD ls (Int.toNat i))) 4)) 2) else 0)]]), .dat (.int .i64 (bif ihas_v0 ls i then bif D.getI (nthD (D.getL (nthD ls (Int.toNat i))) 1) != w then bif D.getI (nthD (D.getL (nthD ls (Int.toNat i))) 2) != w then 3 else 0 else 0 else 3))], []) : Res)) none)
  generalize (okE (k27) (nthD ls (Int.toNat i))) = z0
  generalize (D.getI (nthD (D.getL (nthD ls (Int.toNat i))) 2) != w) = z1
  generalize (D.getI (nthD (D.getL (nthD ls (Int.toNat i))) 1) != w) = z2
  generalize (decide (0 ≤ i)) = z3
  generalize (decide (Int.toNat i < List.length ls)) = z4
  generalize (ihas_pre ls i) = z5
  generalize (ihas_v0 ls i) = z6
  generalize (iof_pre ls) = z7
  cases z7 with
  | true =>
   cases z5 with
   | true =>
    cases z6 with
    | true =>
     cases z3 with
     | true =>
      cases z4 with
      | true =>
       cases z0 with
       | true =>
        cases z2 with
        | true =>
         cases z1 with
         | true =>
          rfl
         | false =>
          rfl
        | false =>
         rfl
       | false =>
        rfl
      | false =>
       rfl
     | false =>
      rfl
    | false =>
     rfl
   | false =>
    rfl
  | false =>
   rfl
  )
theorem cgett_ok : FunOk Try.prog 11 (FunT.run C_gett) := by
  refine fun_ok (E := envOf tab SpC [] [] []) (fz := true) (fn := Try.f11) (envOf_ok progOk SpC_ok) (by kernel_rfl) (by kernel_rfl) (loops_none (by kernel_rfl)) ?_
  intro args σ r h
  unfold C_gett at h
  split at h
  · exact (gett_case0 _ _ _).trans h
  · simp [T.run_fail] at h

def shut_v0 (ls : List D) (i : Int) (w : Int) : List D := bif right_v0 ls then bif gett_v9 ls i w != 0 then [] else ipt_v0 ls i false 0 0 0 0 0 0 0 0 else []
def shut_v1 (ls : List D) (i : Int) (w : Int) : Int := bif right_v0 ls then bif gett_v9 ls i w != 0 then gett_v9 ls i w else ipt_v1 ls i else 1
def shut_pre (ls : List D) (i : Int) (w : Int) : Bool := iw_okL ls && (!right_v0 ls || gett_pre ls i && (gett_v9 ls i w != 0 || iof_pre ls && ipt_pre ls i false 0 0 0 0 0 0 0 0))
def C_shut : FunT := fun args σ => match args, σ with
  | [AV.dat (D.slc (Sh.agg [Sh.one, Sh.one, Sh.one, Sh.agg [Sh.one, Sh.one, Sh.one], Sh.agg [Sh.one, Sh.one, Sh.one]]) ls), AV.dat (D.int IntKind.i64 i), AV.dat (D.int IntKind.i64 w)], [] => .chk ((shut_pre ls i w)) (.leaf ([AV.dat (D.slc (s27) (shut_v0 ls i w)), AV.dat (D.int IntKind.i64 (shut_v1 ls i w))], []))
  | _, _ => .fail
theorem shut_raw0 (ls : List D) (i w : Int) : runF (envOf tab ((11, C_gett) :: SpC) [] [] []) true Try.f8 [.dat (.slc s27 ls), .dat (.int .i64 i), .dat (.int .i64 w)] [] =
  (bif iw_okL ls then 
   (bif !right_v0 ls then some ([.dat (.slc (s27) []), .dat (.int .i64 1)], []) else 
    (bif gett_pre ls i then 
     (bif gett_v9 ls i w != 0 then some ([.dat (.slc (s27) []), .dat (.int .i64 (gett_v9 ls i w))], []) else 
      (bif iof_pre ls then 
       (bif ipt_pre ls i false 0 0 0 0 0 0 0 0 then some ([.dat (.slc (s27) (ipt_v0 ls i false 0 0 0 0 0 0 0 0)), .dat (.int .i64 (ipt_v1 ls i))], []) else none) else none)) else none)) else none) := by kernel_rfl
theorem shut_case0 (ls : List D) (i w : Int) : runF (envOf tab ((11, C_gett) :: SpC) [] [] []) true Try.f8 [.dat (.slc s27 ls), .dat (.int .i64 i), .dat (.int .i64 w)] [] = FunT.run C_shut [.dat (.slc s27 ls), .dat (.int .i64 i), .dat (.int .i64 w)] [] := (shut_raw0 ls i w).trans (by
  show _ = (cond (iw_okL ls && (!right_v0 ls || gett_pre ls i && (gett_v9 ls i w != 0 || iof_pre ls && ipt_pre ls i false 0 0 0 0 0 0 0 0))) (some (([.dat (.slc (s27) (bif right_v0 ls then bif gett_v9 ls i w != 0 then [] else ipt_v0 ls i false 0 0 0 0 0 0 0 0 else [])), .dat (.int .i64 (bif right_v0 ls then bif gett_v9 ls i w != 0 then gett_v9 ls i w else ipt_v1 ls i else 1))], []) : Res)) none)
  generalize (ipt_pre ls i false 0 0 0 0 0 0 0 0) = z0
  generalize (gett_v9 ls i w != 0) = z1
  generalize (gett_pre ls i) = z2
  generalize (iw_okL ls) = z3
  generalize (right_v0 ls) = z4
  generalize (iof_pre ls) = z5
  cases z3 with
  | true =>
   cases z4 with
   | true =>
    cases z2 with
    | true =>
     cases z1 with
     | true =>
      rfl
     | false =>
      cases z5 with
      | true =>
       cases z0 with
       | true =>
        rfl
       | false =>
        rfl
      | false =>
       rfl
    | false =>
     rfl
   | false =>
    rfl
  | false =>
   rfl
  )
theorem cshut_ok : FunOk Try.prog 8 (FunT.run C_shut) := by
  refine fun_ok (E := envOf tab ((11, C_gett) :: SpC) [] [] []) (fz := true) (fn := Try.f8) (envOf_ok progOk (.cons cgett_ok SpC_ok)) (by kernel_rfl) (by kernel_rfl) (loops_none (by kernel_rfl)) ?_
  intro args σ r h
  unfold C_shut at h
  split at h
  · exact (shut_case0 _ _ _).trans h
  · simp [T.run_fail] at h


end Go.Proofs.Ytlgieadebfdppaa
