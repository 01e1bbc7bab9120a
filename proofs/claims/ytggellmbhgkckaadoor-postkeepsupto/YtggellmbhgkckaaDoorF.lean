/- Seat 17: Of, the fixed calls. -/
import Derived.Test.YtggellmbhgkckaaDoorE
namespace Go.Proofs.YtggellmbhgkckaaDoor
open Go.AX
set_option maxRecDepth 100000
def of_pre (ls : List D) (w : Int) : Bool := iof_pre ls && (slotsO_pre ls && del_pre ls (usTo ls) (List.length (usTo ls)) (List.length (usTo ls)) w)
def C_of : FunT := fun args σ => match args, σ with
  | [AV.dat (D.slc (Sh.agg [Sh.one, Sh.one, Sh.one, Sh.one, Sh.one]) ls), AV.dat (D.int IntKind.i64 w)], [] => .chk ((of_pre ls w)) (.leaf ([AV.dat (D.slc Sh.one (del_v0 ls (usTo ls) (List.length (usTo ls)) w))], []))
  | _, _ => .fail
theorem of_raw0 (ls : List D) (w : Int) : runF (envOf tab [(13, C_irw), (21, C_slotsO), (20, C_del)] [20] [] []) true Tryd.f10 [.dat (.slc s23 ls), .dat (.int .i64 w)] [] =
  (bif iof_pre ls then
   (bif slotsO_pre ls then
    (bif del_pre ls (usTo ls) (List.length (usTo ls)) (List.length (usTo ls)) w then some ([.dat (.slc Sh.one (del_v0 ls (usTo ls) (List.length (usTo ls)) w))], []) else none) else none) else none) := by kernel_rfl
theorem of_case0 (ls : List D) (w : Int) : runF (envOf tab [(13, C_irw), (21, C_slotsO), (20, C_del)] [20] [] []) true Tryd.f10 [.dat (.slc s23 ls), .dat (.int .i64 w)] [] = FunT.run C_of [.dat (.slc s23 ls), .dat (.int .i64 w)] [] := (of_raw0 ls w).trans (by
  show _ = (cond (iof_pre ls && (slotsO_pre ls && del_pre ls (usTo ls) (List.length (usTo ls)) (List.length (usTo ls)) w)) (some (([.dat (.slc Sh.one (del_v0 ls (usTo ls) (List.length (usTo ls)) w))], []) : Res)) none)
  generalize (del_pre ls (usTo ls) (List.length (usTo ls)) (List.length (usTo ls)) w) = z0
  generalize (iof_pre ls) = z1
  generalize (slotsO_pre ls) = z2
  cases z1 with
  | true =>
   cases z2 with
   | true =>
    cases z0 with
    | true =>
     rfl
    | false =>
     rfl
   | false =>
    rfl
  | false =>
   rfl
  )
theorem cof_ok : FunOk Tryd.prog 10 (FunT.run C_of) := by
  refine fun_ok (E := envOf tab [(13, C_irw), (21, C_slotsO), (20, C_del)] [20] [] []) (fz := true) (fn := Tryd.f10) (envOf_ok progOk (.cons cirw_ok (.cons cslotsO_ok (.cons cdel_ok (.nil _))))) (by kernel_rfl) (by kernel_rfl) (loops_none (by kernel_rfl)) ?_
  intro args σ r h
  unfold C_of at h
  split at h
  · exact (of_case0 _ _).trans h
  · simp [T.run_fail] at h
abbrev SpF : Specs := [(5, C_put), (7, C_toss), (8, C_right), (9, C_gett), (10, C_of)]
theorem SpF_ok : SpecsOk Tryd.prog SpF := .cons cput_ok (.cons ctoss_ok (.cons cright_ok (.cons cgett_ok (.cons cof_ok (.nil _)))))
def C_alive : FunT := fun args σ => match args, σ with
  | [], [] => .leaf ([AV.dat (D.bool true)], [])
  | _, _ => .fail
theorem alive_raw0  : runF (envOf tab SpF [] [] []) true Tryd.f6 [] [] =some ([.dat (.bool true)], []) := by kernel_rfl
theorem alive_case0  : runF (envOf tab SpF [] [] []) true Tryd.f6 [] [] = FunT.run C_alive [] [] := (alive_raw0).trans (by
  show _ = (some (([.dat (.bool true)], []) : Res))
  rfl
  )
theorem calive_ok : FunOk Tryd.prog 6 (FunT.run C_alive) := by
  refine fun_ok (E := envOf tab SpF [] [] []) (fz := true) (fn := Tryd.f6) (envOf_ok progOk SpF_ok) (by kernel_rfl) (by kernel_rfl) (loops_none (by kernel_rfl)) ?_
  intro args σ r h
  unfold C_alive at h
  split at h
  · exact (alive_case0).trans h
  · simp [T.run_fail] at h
end Go.Proofs.YtggellmbhgkckaaDoor
