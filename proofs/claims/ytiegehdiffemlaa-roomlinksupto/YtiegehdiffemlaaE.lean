/- Seat 15: lists of exits. -/
import Derived.Test.YtiegehdiffemlaaD
namespace Go.Proofs.Ytiegehdiffemlaa
open Go.AX
set_option maxRecDepth 100000

abbrev SpE : Specs := [(22, C_index), (28, C_wrx)]
theorem SpE_ok : SpecsOk Try.prog SpE := .cons cindex_ok (.cons cwrx_ok (.nil _))
abbrev HE : Hints := [(5, 0, [.kill 4, .cut 0])]
def ex_fr (ms ls : List D) (n : Int) : Int → Frame' := fun i => mkF 29 [(0, .dat (.slc (.agg [.one, .agg [.one, .one], .agg [.one, .one], .one]) ms)), (5, .dat (.slc (.agg [.one, .agg [.one, .one], .agg [.one, .one], .one]) ls)), (6, .dat (.int .i64 n)), (7, .dat (.int .i64 i))]
def ex_st (_ _ : List D) (_ : Int) : Int → Store := fun _ => []
def ex_step (ms ls : List D) (n : Int) : Int → T (Int ⊕ LOut) := fun i => 
  .chk (!decide (i < n) || decide ((0 : Int) ≤ i) && (decide (Int.toNat i < List.length ls) && (okE (Ek.agg [Ek.bool, Ek.agg [Ek.int IntKind.i64, Ek.int IntKind.i64], Ek.agg [Ek.int IntKind.i64, Ek.int IntKind.i64], Ek.int IntKind.i64]) (nthD ls (Int.toNat i)) && (wrx_v0 (D.getB (nthD (D.getL (nthD ls (Int.toNat i))) (0 : Nat))) (D.getI (nthD (D.getL (nthD (D.getL (nthD ls (Int.toNat i))) (1 : Nat))) (0 : Nat))) (D.getI (nthD (D.getL (nthD (D.getL (nthD ls (Int.toNat i))) (1 : Nat))) (1 : Nat))) (D.getI (nthD (D.getL (nthD (D.getL (nthD ls (Int.toNat i))) (2 : Nat))) (0 : Nat))) (D.getI (nthD (D.getL (nthD (D.getL (nthD ls (Int.toNat i))) (2 : Nat))) (1 : Nat))) (D.getI (nthD (D.getL (nthD ls (Int.toNat i))) (3 : Nat))) || (!D.getB (nthD (D.getL (nthD ls (Int.toNat i))) (0 : Nat)) || ix_okL (D.getI (nthD (D.getL (nthD (D.getL (nthD ls (Int.toNat i))) (1 : Nat))) (0 : Nat))) (D.getI (nthD (D.getL (nthD (D.getL (nthD ls (Int.toNat i))) (1 : Nat))) (1 : Nat))) (D.getI (nthD (D.getL (nthD ls (Int.toNat i))) (3 : Nat))) ms))))) (
   .br (!decide (i < n)) (.leaf (.inr ((some (0 : Nat)), mkF (29 : Nat) [], []))) (
    .br (decide (i < n) && (wrx_v0 (D.getB (nthD (D.getL (nthD ls (Int.toNat i))) (0 : Nat))) (D.getI (nthD (D.getL (nthD (D.getL (nthD ls (Int.toNat i))) (1 : Nat))) (0 : Nat))) (D.getI (nthD (D.getL (nthD (D.getL (nthD ls (Int.toNat i))) (1 : Nat))) (1 : Nat))) (D.getI (nthD (D.getL (nthD (D.getL (nthD ls (Int.toNat i))) (2 : Nat))) (0 : Nat))) (D.getI (nthD (D.getL (nthD (D.getL (nthD ls (Int.toNat i))) (2 : Nat))) (1 : Nat))) (D.getI (nthD (D.getL (nthD ls (Int.toNat i))) (3 : Nat))) || D.getB (nthD (D.getL (nthD ls (Int.toNat i))) (0 : Nat)) && ix_idx (D.getI (nthD (D.getL (nthD (D.getL (nthD ls (Int.toNat i))) (1 : Nat))) (0 : Nat))) (D.getI (nthD (D.getL (nthD (D.getL (nthD ls (Int.toNat i))) (1 : Nat))) (1 : Nat))) (D.getI (nthD (D.getL (nthD ls (Int.toNat i))) (3 : Nat))) ms != i)) (.leaf (.inr (none, mkF (29 : Nat) [((2 : Nat), AV.dat (D.bool false))], []))) (.leaf (.inl (IntKind.wrap IntKind.i64 (i + (1 : Int)))))))
theorem ex_round (lp : Loops) (ms ls : List D) (n : Int) (i : Int) (K : Kt) : oneRound (envOf tab SpE [] lp HE) Try.f14 0 (0) (mkF 29 [(0, .dat (.slc (.agg [.one, .agg [.one, .one], .agg [.one, .one], .one]) ms)), (5, .dat (.slc (.agg [.one, .agg [.one, .one], .agg [.one, .one], .one]) ls)), (6, .dat (.int .i64 n)), (7, .dat (.int .i64 i))]) ([]) K =
  (bif decide (i < n) then 
   (bif decide ((0 : Int) ≤ i) then 
    (bif decide (Int.toNat i < List.length ls) then 
     (bif okE (Ek.agg [Ek.bool, Ek.agg [Ek.int IntKind.i64, Ek.int IntKind.i64], Ek.agg [Ek.int IntKind.i64, Ek.int IntKind.i64], Ek.int IntKind.i64]) (nthD ls (Int.toNat i)) then 
      (bif wrx_v0 (D.getB (nthD (D.getL (nthD ls (Int.toNat i))) (0 : Nat))) (D.getI (nthD (D.getL (nthD (D.getL (nthD ls (Int.toNat i))) (1 : Nat))) (0 : Nat))) (D.getI (nthD (D.getL (nthD (D.getL (nthD ls (Int.toNat i))) (1 : Nat))) (1 : Nat))) (D.getI (nthD (D.getL (nthD (D.getL (nthD ls (Int.toNat i))) (2 : Nat))) (0 : Nat))) (D.getI (nthD (D.getL (nthD (D.getL (nthD ls (Int.toNat i))) (2 : Nat))) (1 : Nat))) (D.getI (nthD (D.getL (nthD ls (Int.toNat i))) (3 : Nat))) == false then 
       (bif D.getB (nthD (D.getL (nthD ls (Int.toNat i))) (0 : Nat)) == true then 
        (bif ix_okL (D.getI (nthD (D.getL (nthD (D.getL (nthD ls (Int.toNat i))) (1 : Nat))) (0 : Nat))) (D.getI (nthD (D.getL (nthD (D.getL (nthD ls (Int.toNat i))) (1 : Nat))) (1 : Nat))) (D.getI (nthD (D.getL (nthD ls (Int.toNat i))) (3 : Nat))) ms then 
         (bif D.getB (nthD (D.getL (nthD ls (Int.toNat i))) (0 : Nat)) then 
          (bif wrx_v0 (D.getB (nthD (D.getL (nthD ls (Int.toNat i))) (0 : Nat))) (D.getI (nthD (D.getL (nthD (D.getL (nthD ls (Int.toNat i))) (1 : Nat))) (0 : Nat))) (D.getI (nthD (D.getL (nthD (D.getL (nthD ls (Int.toNat i))) (1 : Nat))) (1 : Nat))) (D.getI (nthD (D.getL (nthD (D.getL (nthD ls (Int.toNat i))) (2 : Nat))) (0 : Nat))) (D.getI (nthD (D.getL (nthD (D.getL (nthD ls (Int.toNat i))) (2 : Nat))) (1 : Nat))) (D.getI (nthD (D.getL (nthD ls (Int.toNat i))) (3 : Nat))) then K (Exit.ret) (mkF (29 : Nat) [((2 : Nat), AV.dat (D.bool false))]) ([]) else 
           (bif ix_idx (D.getI (nthD (D.getL (nthD (D.getL (nthD ls (Int.toNat i))) (1 : Nat))) (0 : Nat))) (D.getI (nthD (D.getL (nthD (D.getL (nthD ls (Int.toNat i))) (1 : Nat))) (1 : Nat))) (D.getI (nthD (D.getL (nthD ls (Int.toNat i))) (3 : Nat))) ms != i then K (Exit.ret) (mkF (29 : Nat) [((2 : Nat), AV.dat (D.bool false))]) ([]) else K (Exit.normal) (mkF (29 : Nat) [((0 : Nat), AV.dat (D.slc (Sh.agg [Sh.one, Sh.agg [Sh.one, Sh.one], Sh.agg [Sh.one, Sh.one], Sh.one]) ms)), ((5 : Nat), AV.dat (D.slc (Sh.agg [Sh.one, Sh.agg [Sh.one, Sh.one], Sh.agg [Sh.one, Sh.one], Sh.one]) ls)), ((6 : Nat), AV.dat (D.int IntKind.i64 n)), ((7 : Nat), AV.dat (D.int IntKind.i64 (IntKind.wrap IntKind.i64 (i + (1 : Int))))), ((8 : Nat), AV.dat (D.bool (decide (i < n)))), ((28 : Nat), AV.dat (D.int IntKind.i64 (IntKind.wrap IntKind.i64 (i + (1 : Int)))))]) ([{ sh := Sh.agg [Sh.one, Sh.agg [Sh.one, Sh.one], Sh.agg [Sh.one, Sh.one], Sh.one], dyn := false, frz := false, v := AV.dat (D.agg [D.bool (D.getB (nthD (D.getL (nthD ls (Int.toNat i))) (0 : Nat))), D.agg [D.int IntKind.i64 (D.getI (nthD (D.getL (nthD (D.getL (nthD ls (Int.toNat i))) (1 : Nat))) (0 : Nat))), D.int IntKind.i64 (D.getI (nthD (D.getL (nthD (D.getL (nthD ls (Int.toNat i))) (1 : Nat))) (1 : Nat)))], D.agg [D.int IntKind.i64 (D.getI (nthD (D.getL (nthD (D.getL (nthD ls (Int.toNat i))) (2 : Nat))) (0 : Nat))), D.int IntKind.i64 (D.getI (nthD (D.getL (nthD (D.getL (nthD ls (Int.toNat i))) (2 : Nat))) (1 : Nat)))], D.int IntKind.i64 (D.getI (nthD (D.getL (nthD ls (Int.toNat i))) (3 : Nat)))]) }]))) else 
          (bif wrx_v0 (D.getB (nthD (D.getL (nthD ls (Int.toNat i))) (0 : Nat))) (D.getI (nthD (D.getL (nthD (D.getL (nthD ls (Int.toNat i))) (1 : Nat))) (0 : Nat))) (D.getI (nthD (D.getL (nthD (D.getL (nthD ls (Int.toNat i))) (1 : Nat))) (1 : Nat))) (D.getI (nthD (D.getL (nthD (D.getL (nthD ls (Int.toNat i))) (2 : Nat))) (0 : Nat))) (D.getI (nthD (D.getL (nthD (D.getL (nthD ls (Int.toNat i))) (2 : Nat))) (1 : Nat))) (D.getI (nthD (D.getL (nthD ls (Int.toNat i))) (3 : Nat))) then K (Exit.ret) (mkF (29 : Nat) [((2 : Nat), AV.dat (D.bool false))]) ([]) else K (Exit.normal) (mkF (29 : Nat) [((0 : Nat), AV.dat (D.slc (Sh.agg [Sh.one, Sh.agg [Sh.one, Sh.one], Sh.agg [Sh.one, Sh.one], Sh.one]) ms)), ((5 : Nat), AV.dat (D.slc (Sh.agg [Sh.one, Sh.agg [Sh.one, Sh.one], Sh.agg [Sh.one, Sh.one], Sh.one]) ls)), ((6 : Nat), AV.dat (D.int IntKind.i64 n)), ((7 : Nat), AV.dat (D.int IntKind.i64 (IntKind.wrap IntKind.i64 (i + (1 : Int))))), ((8 : Nat), AV.dat (D.bool (decide (i < n)))), ((28 : Nat), AV.dat (D.int IntKind.i64 (IntKind.wrap IntKind.i64 (i + (1 : Int)))))]) ([{ sh := Sh.agg [Sh.one, Sh.agg [Sh.one, Sh.one], Sh.agg [Sh.one, Sh.one], Sh.one], dyn := false, frz := false, v := AV.dat (D.agg [D.bool (D.getB (nthD (D.getL (nthD ls (Int.toNat i))) (0 : Nat))), D.agg [D.int IntKind.i64 (D.getI (nthD (D.getL (nthD (D.getL (nthD ls (Int.toNat i))) (1 : Nat))) (0 : Nat))), D.int IntKind.i64 (D.getI (nthD (D.getL (nthD (D.getL (nthD ls (Int.toNat i))) (1 : Nat))) (1 : Nat)))], D.agg [D.int IntKind.i64 (D.getI (nthD (D.getL (nthD (D.getL (nthD ls (Int.toNat i))) (2 : Nat))) (0 : Nat))), D.int IntKind.i64 (D.getI (nthD (D.getL (nthD (D.getL (nthD ls (Int.toNat i))) (2 : Nat))) (1 : Nat)))], D.int IntKind.i64 (D.getI (nthD (D.getL (nthD ls (Int.toNat i))) (3 : Nat)))]) }]))) else none) else 
        (bif D.getB (nthD (D.getL (nthD ls (Int.toNat i))) (0 : Nat)) then 
         (bif wrx_v0 (D.getB (nthD (D.getL (nthD ls (Int.toNat i))) (0 : Nat))) (D.getI (nthD (D.getL (nthD (D.getL (nthD ls (Int.toNat i))) (1 : Nat))) (0 : Nat))) (D.getI (nthD (D.getL (nthD (D.getL (nthD ls (Int.toNat i))) (1 : Nat))) (1 : Nat))) (D.getI (nthD (D.getL (nthD (D.getL (nthD ls (Int.toNat i))) (2 : Nat))) (0 : Nat))) (D.getI (nthD (D.getL (nthD (D.getL (nthD ls (Int.toNat i))) (2 : Nat))) (1 : Nat))) (D.getI (nthD (D.getL (nthD ls (Int.toNat i))) (3 : Nat))) then K (Exit.ret) (mkF (29 : Nat) [((2 : Nat), AV.dat (D.bool false))]) ([]) else none) else 
         (bif wrx_v0 (D.getB (nthD (D.getL (nthD ls (Int.toNat i))) (0 : Nat))) (D.getI (nthD (D.getL (nthD (D.getL (nthD ls (Int.toNat i))) (1 : Nat))) (0 : Nat))) (D.getI (nthD (D.getL (nthD (D.getL (nthD ls (Int.toNat i))) (1 : Nat))) (1 : Nat))) (D.getI (nthD (D.getL (nthD (D.getL (nthD ls (Int.toNat i))) (2 : Nat))) (0 : Nat))) (D.getI (nthD (D.getL (nthD (D.getL (nthD ls (Int.toNat i))) (2 : Nat))) (1 : Nat))) (D.getI (nthD (D.getL (nthD ls (Int.toNat i))) (3 : Nat))) then K (Exit.ret) (mkF (29 : Nat) [((2 : Nat), AV.dat (D.bool false))]) ([]) else K (Exit.normal) (mkF (29 : Nat) [((0 : Nat), AV.dat (D.slc (Sh.agg [Sh.one, Sh.agg [Sh.one, Sh.one], Sh.agg [Sh.one, Sh.one], Sh.one]) ms)), ((5 : Nat), AV.dat (D.slc (Sh.agg [Sh.one, Sh.agg [Sh.one, Sh.one], Sh.agg [Sh.one, Sh.one], Sh.one]) ls)), ((6 : Nat), AV.dat (D.int IntKind.i64 n)), ((7 : Nat), AV.dat (D.int IntKind.i64 (IntKind.wrap IntKind.i64 (i + (1 : Int))))), ((8 : Nat), AV.dat (D.bool (decide (i < n)))), ((28 : Nat), AV.dat (D.int IntKind.i64 (IntKind.wrap IntKind.i64 (i + (1 : Int)))))]) ([{ sh := Sh.agg [Sh.one, Sh.agg [Sh.one, Sh.one], Sh.agg [Sh.one, Sh.one], Sh.one], dyn := false, frz := false, v := AV.dat (D.agg [D.bool (D.getB (nthD (D.getL (nthD ls (Int.toNat i))) (0 : Nat))), D.agg [D.int IntKind.i64 (D.getI (nthD (D.getL (nthD (D.getL (nthD ls (Int.toNat i))) (1 : Nat))) (0 : Nat))), D.int IntKind.i64 (D.getI (nthD (D.getL (nthD (D.getL (nthD ls (Int.toNat i))) (1 : Nat))) (1 : Nat)))], D.agg [D.int IntKind.i64 (D.getI (nthD (D.getL (nthD (D.getL (nthD ls (Int.toNat i))) (2 : Nat))) (0 : Nat))), D.int IntKind.i64 (D.getI (nthD (D.getL (nthD (D.getL (nthD ls (Int.toNat i))) (2 : Nat))) (1 : Nat)))], D.int IntKind.i64 (D.getI (nthD (D.getL (nthD ls (Int.toNat i))) (3 : Nat)))]) }])))) else 
       (bif wrx_v0 (D.getB (nthD (D.getL (nthD ls (Int.toNat i))) (0 : Nat))) (D.getI (nthD (D.getL (nthD (D.getL (nthD ls (Int.toNat i))) (1 : Nat))) (0 : Nat))) (D.getI (nthD (D.getL (nthD (D.getL (nthD ls (Int.toNat i))) (1 : Nat))) (1 : Nat))) (D.getI (nthD (D.getL (nthD (D.getL (nthD ls (Int.toNat i))) (2 : Nat))) (0 : Nat))) (D.getI (nthD (D.getL (nthD (D.getL (nthD ls (Int.toNat i))) (2 : Nat))) (1 : Nat))) (D.getI (nthD (D.getL (nthD ls (Int.toNat i))) (3 : Nat))) then K (Exit.ret) (mkF (29 : Nat) [((2 : Nat), AV.dat (D.bool false))]) ([]) else none)) else none) else none) else none) else K (Exit.exit (0 : Nat)) (mkF (29 : Nat) []) ([])) := by kernel_rfl
theorem ex_hr (lp : Loops) (ms ls : List D) (n : Int) : ∀ (sA : Int) (K : Kt) (N : Int → Option Res), (∀ sB fr' σ', cleanF (liveAt Try.f14 0) 0 fr' = ex_fr ms ls n sB → trim (0) (ex_fr ms ls n sB) σ' = ex_st ms ls n sB → K .normal fr' σ' = N sB) →
    oneRound (envOf tab SpE [] lp HE) Try.f14 0 (0) (ex_fr ms ls n sA) (ex_st ms ls n sA) K = (ex_step ms ls n sA).k (LK K N) := by
  intro i K N hN
  refine (ex_round lp ms ls n i K).trans ?_
  show _ = T.k ((
  .chk (!decide (i < n) || decide ((0 : Int) ≤ i) && (decide (Int.toNat i < List.length ls) && (okE (Ek.agg [Ek.bool, Ek.agg [Ek.int IntKind.i64, Ek.int IntKind.i64], Ek.agg [Ek.int IntKind.i64, Ek.int IntKind.i64], Ek.int IntKind.i64]) (nthD ls (Int.toNat i)) && (wrx_v0 (D.getB (nthD (D.getL (nthD ls (Int.toNat i))) (0 : Nat))) (D.getI (nthD (D.getL (nthD (D.getL (nthD ls (Int.toNat i))) (1 : Nat))) (0 : Nat))) (D.getI (nthD (D.getL (nthD (D.getL (nthD ls (Int.toNat i))) (1 : Nat))) (1 : Nat))) (D.getI (nthD (D.getL (nthD (D.getL (nthD ls (Int.toNat i))) (2 : Nat))) (0 : Nat))) (D.getI (nthD (D.getL (nthD (D.getL (nthD ls (Int.toNat i))) (2 : Nat))) (1 : Nat))) (D.getI (nthD (D.getL (nthD ls (Int.toNat i))) (3 : Nat))) || (!D.getB (nthD (D.getL (nthD ls (Int.toNat i))) (0 : Nat)) || ix_okL (D.getI (nthD (D.getL (nthD (D.getL (nthD ls (Int.toNat i))) (1 : Nat))) (0 : Nat))) (D.getI (nthD (D.getL (nthD (D.getL (nthD ls (Int.toNat i))) (1 : Nat))) (1 : Nat))) (D.getI (nthD (D.getL (nthD ls (Int.toNat i))) (3 : Nat))) ms))))) (
   .br (!decide (i < n)) (.leaf (.inr ((some (0 : Nat)), mkF (29 : Nat) [], []))) (
    .br (decide (i < n) && (wrx_v0 (D.getB (nthD (D.getL (nthD ls (Int.toNat i))) (0 : Nat))) (D.getI (nthD (D.getL (nthD (D.getL (nthD ls (Int.toNat i))) (1 : Nat))) (0 : Nat))) (D.getI (nthD (D.getL (nthD (D.getL (nthD ls (Int.toNat i))) (1 : Nat))) (1 : Nat))) (D.getI (nthD (D.getL (nthD (D.getL (nthD ls (Int.toNat i))) (2 : Nat))) (0 : Nat))) (D.getI (nthD (D.getL (nthD (D.getL (nthD ls (Int.toNat i))) (2 : Nat))) (1 : Nat))) (D.getI (nthD (D.getL (nthD ls (Int.toNat i))) (3 : Nat))) || D.getB (nthD (D.getL (nthD ls (Int.toNat i))) (0 : Nat)) && ix_idx (D.getI (nthD (D.getL (nthD (D.getL (nthD ls (Int.toNat i))) (1 : Nat))) (0 : Nat))) (D.getI (nthD (D.getL (nthD (D.getL (nthD ls (Int.toNat i))) (1 : Nat))) (1 : Nat))) (D.getI (nthD (D.getL (nthD ls (Int.toNat i))) (3 : Nat))) ms != i)) (.leaf (.inr (none, mkF (29 : Nat) [((2 : Nat), AV.dat (D.bool false))], []))) (.leaf (.inl (IntKind.wrap IntKind.i64 (i + (1 : Int)))))))) : T (Int ⊕ LOut)) (LK K N)
  generalize (decide (i < n)) = z0
  cases z0 with
  | true =>
   generalize (decide ((0 : Int) ≤ i)) = z1
   cases z1 with
   | true =>
    generalize (decide (Int.toNat i < List.length ls)) = z2
    cases z2 with
    | true =>
     generalize (okE (Ek.agg [Ek.bool, Ek.agg [Ek.int IntKind.i64, Ek.int IntKind.i64], Ek.agg [Ek.int IntKind.i64, Ek.int IntKind.i64], Ek.int IntKind.i64]) (nthD ls (Int.toNat i))) = z3
     cases z3 with
     | true =>
      generalize (wrx_v0 (D.getB (nthD (D.getL (nthD ls (Int.toNat i))) (0 : Nat))) (D.getI (nthD (D.getL (nthD (D.getL (nthD ls (Int.toNat i))) (1 : Nat))) (0 : Nat))) (D.getI (nthD (D.getL (nthD (D.getL (nthD ls (Int.toNat i))) (1 : Nat))) (1 : Nat))) (D.getI (nthD (D.getL (nthD (D.getL (nthD ls (Int.toNat i))) (2 : Nat))) (0 : Nat))) (D.getI (nthD (D.getL (nthD (D.getL (nthD ls (Int.toNat i))) (2 : Nat))) (1 : Nat))) (D.getI (nthD (D.getL (nthD ls (Int.toNat i))) (3 : Nat)))) = z4
      cases z4 with
      | true =>
       rfl
      | false =>
       generalize (D.getB (nthD (D.getL (nthD ls (Int.toNat i))) (0 : Nat))) = z5
       cases z5 with
       | true =>
        generalize (ix_okL (D.getI (nthD (D.getL (nthD (D.getL (nthD ls (Int.toNat i))) (1 : Nat))) (0 : Nat))) (D.getI (nthD (D.getL (nthD (D.getL (nthD ls (Int.toNat i))) (1 : Nat))) (1 : Nat))) (D.getI (nthD (D.getL (nthD ls (Int.toNat i))) (3 : Nat))) ms) = z6
        cases z6 with
        | true =>
         generalize (ix_idx (D.getI (nthD (D.getL (nthD (D.getL (nthD ls (Int.toNat i))) (1 : Nat))) (0 : Nat))) (D.getI (nthD (D.getL (nthD (D.getL (nthD ls (Int.toNat i))) (1 : Nat))) (1 : Nat))) (D.getI (nthD (D.getL (nthD ls (Int.toNat i))) (3 : Nat))) ms != i) = z7
         cases z7 with
         | true =>
          rfl
         | false =>
          exact hN _ _ _ (by kernel_rfl) (by kernel_rfl)
        | false =>
         rfl
       | false =>
        exact hN _ _ _ (by kernel_rfl) (by kernel_rfl)
     | false =>
      rfl
    | false =>
     rfl
   | false =>
    rfl
  | false =>
   rfl
theorem ex_enter (ms ls : List D) (n : Int) (i : Int) (fr : Frame') (hl : Nat.beq fr.length 29 = true) (g0 : fr.getD 0 .undef = AV.dat (D.slc (Sh.agg [Sh.one, Sh.agg [Sh.one, Sh.one], Sh.agg [Sh.one, Sh.one], Sh.one]) ms)) (g5 : fr.getD 5 .undef = AV.dat (D.slc (Sh.agg [Sh.one, Sh.agg [Sh.one, Sh.one], Sh.agg [Sh.one, Sh.one], Sh.one]) ls)) (g6 : fr.getD 6 .undef = AV.dat (D.int IntKind.i64 n)) (g7 : fr.getD 7 .undef = AV.dat (D.int IntKind.i64 i)) : cleanF (liveAt Try.f14 0) 0 fr = ex_fr ms ls n i := by
  have e : liveAt Try.f14 0 = [6, 5, 0, 7] := by kernel_rfl
  rw [clean_mk (Nat.eq_of_beq_eq_true hl), e]
  show mkF 29 [(6, fr.getD 6 .undef), (5, fr.getD 5 .undef), (0, fr.getD 0 .undef), (7, fr.getD 7 .undef)] = _
  rw [g6, g5, g0, g7]
  kernel_rfl


def okX (ls : List D) : Bool := ls.all (okE ekX) && decide (ls.length ≤ 1099511627776)
theorem okX_spec {ls : List D} (h : okX ls = true) : ls.all (okE ekX) = true ∧ ls.length ≤ 1099511627776 := by
  unfold okX at h
  simpa only [Bool.and_eq_true, decide_eq_true_eq] using h
theorem okX_ix {ls : List D} (h : okX ls = true) (a b c : Int) : ix_okL a b c ls = true := h
theorem okX_jx {ls : List D} (h : okX ls = true) (ds : List D) : jx_okL ds ls = true := h
abbrev wrD (d : D) : Bool := wrx_v0 (usedD d) (pR2 d 1 0) (pR2 d 1 1) (pR2 d 2 0) (pR2 d 2 1) (pI d 3)
abbrev idxD (ls : List D) (d : D) : Int := ix_idx (pR2 d 1 0) (pR2 d 1 1) (pI d 3) ls
def badX (ls : List D) (i : Nat) : Bool := wrD (nthD ls i) || usedD (nthD ls i) && idxD ls (nthD ls i) != (i : Int)
theorem ex_closed (ms ls : List D) (n : Int) (hc : (decide (n = (ls.length : Int)) && okX ls && D.eqbL ms ls) = true) :
    ∃ m, (iterT (ex_step ms ls n) m 0).run = T.run (.br ((List.range ls.length).any (badX ls)) (.leaf (none, mkF 29 [(2, .dat (.bool false))], [])) (.leaf (some 0, mkF 29 [], []))) := by
  simp only [Bool.and_eq_true, decide_eq_true_eq] at hc
  obtain ⟨⟨rfl, hx⟩, hms⟩ := hc
  obtain rfl := eqbL_iff.1 hms
  obtain ⟨h1, h2⟩ := okX_spec hx
  obtain ⟨m, hm⟩ := iter_any (step := ex_step ms ms ms.length) (n := ms.length) (p := badX ms) (o := (none, mkF 29 [(2, .dat (.bool false))], [])) (o' := (some 0, mkF 29 [], []))
    (fun k hk => by
      unfold ex_step
      simp only [decide_eq_true (show (k : Int) < (ms.length : Int) by omega), decide_eq_true (show (0 : Int) ≤ (k : Int) by omega), Int.toNat_natCast, decide_eq_true hk, allE_nth h1 hk, okX_ix hx, wrap_succ (show k < 2 ^ 62 by omega), Bool.not_true, Bool.or_true, Bool.true_and, T.run_br, T.run_chk, T.run_leaf, cond_true, cond_false]
      exact bif_some (badX ms k) _ _)
    (by
      unfold ex_step
      rw [decide_eq_false (show ¬ (ms.length : Int) < (ms.length : Int) by omega)]
      rfl)
  refine ⟨m, hm.trans ?_⟩
  cases (List.range ms.length).any (badX ms) <;> rfl
def L_ex : Frame' → Store → T (Exit × Frame' × Store) := fun fr σ => match fr.getD 0 .undef, fr.getD 5 .undef, fr.getD 6 .undef, fr.getD 7 .undef, σ with
  | AV.dat (D.slc (Sh.agg [Sh.one, Sh.agg [Sh.one, Sh.one], Sh.agg [Sh.one, Sh.one], Sh.one]) ms), AV.dat (D.slc (Sh.agg [Sh.one, Sh.agg [Sh.one, Sh.one], Sh.agg [Sh.one, Sh.one], Sh.one]) ls), AV.dat (D.int IntKind.i64 n), AV.dat (D.int IntKind.i64 0), [] => .chk (Nat.beq fr.length 29 && (decide (n = (ls.length : Int)) && okX ls && D.eqbL ms ls)) (T.bind (.br ((List.range ls.length).any (badX ls)) (.leaf (none, mkF 29 [(2, .dat (.bool false))], [])) (.leaf (some 0, mkF 29 [], []))) fun o => .leaf (outEx o.1, o.2.1, o.2.2))
  | _, _, _, _, _ => .fail
theorem ex_sem (lp : Loops) : ∀ fr σ p, (L_ex fr σ).run = some p → ∀ (K : Kt) r, K p.1 p.2.1 p.2.2 = some r → ∃ n, loopRun (envOf tab SpE [] lp HE) Try.f14 0 σ.length n (cleanF (liveAt Try.f14 0) 0 fr) σ K = some r := by
  intro fr σ p h K r hK
  unfold L_ex at h
  split at h
  · rename_i ms ls n g0 g5 g6 g7
    obtain ⟨hc, h'⟩ := T.chk_some h
    rw [Bool.and_eq_true] at hc
    obtain ⟨hl, hc⟩ := hc
    obtain ⟨o, ho, h'⟩ := T.bind_some h'
    have hp := T.leaf_some h'
    subst hp
    obtain ⟨nF, hn⟩ : ∃ nF, (iterT (ex_step ms ls n) nF (0)).run = T.run (.br ((List.range ls.length).any (badX ls)) (.leaf (none, mkF 29 [(2, .dat (.bool false))], [])) (.leaf (some 0, mkF 29 [], []))) := ex_closed ms ls n hc
    rw [ho] at hn
    refine ⟨nF, ?_⟩
    have he : cleanF (liveAt Try.f14 0) 0 fr = ex_fr ms ls n (0) := ex_enter ms ls n _ fr hl g0 g5 g6 g7
    refine (iter_ok (base := 0) (ex_hr lp ms ls n) K nF (0) _ _ (by rw [clean_clean]; exact he) (by kernel_rfl)).trans ?_
    rw [T.k_run hn]
    exact hK
  · simp [T.run_fail] at h
theorem ex_loopOk (lp : Loops) (hk : Loops.get lp 2 = some L_ex) : LoopOk (envOf tab SpE [] lp HE) (loopAt Try.f14 0).1 (loopAt Try.f14 0).2 := loop_ok (L := L_ex) hk (ex_sem lp)


def exok_v0 (ls : List D) : Bool := !List.any (List.range (List.length ls)) (badX ls)
def exok_pre (ls : List D) : Bool := decide ((↑(List.length ls) : Int) = (↑(List.length ls) : Int)) && okX ls && D.eqbL ls ls
def C_exok : FunT := fun args σ => match args, σ with
  | [AV.dat (D.slc (Sh.agg [Sh.one, Sh.agg [Sh.one, Sh.one], Sh.agg [Sh.one, Sh.one], Sh.one]) ls)], [] => .chk ((exok_pre ls)) (.leaf ([AV.dat (D.bool (exok_v0 ls))], []))
  | _, _ => .fail
theorem exok_raw0 (ls : List D) : runF (envOf tab SpE [] [(2, L_ex)] HE) true Try.f14 [.dat (.slc (.agg [.one, .agg [.one, .one], .agg [.one, .one], .one]) ls)] [] =
  (bif decide ((↑(List.length ls) : Int) = (↑(List.length ls) : Int)) && okX ls && D.eqbL ls ls then 
   (bif List.any (List.range (List.length ls)) (badX ls) then some ([AV.dat (D.bool false)], []) else some ([AV.dat (D.bool true)], [])) else none) := by kernel_rfl
theorem exok_case0 (ls : List D) : runF (envOf tab SpE [] [(2, L_ex)] HE) true Try.f14 [.dat (.slc (.agg [.one, .agg [.one, .one], .agg [.one, .one], .one]) ls)] [] = FunT.run C_exok [.dat (.slc (.agg [.one, .agg [.one, .one], .agg [.one, .one], .one]) ls)] [] := (exok_raw0 ls).trans (by
  show _ = (cond (decide ((↑(List.length ls) : Int) = (↑(List.length ls) : Int)) && okX ls && D.eqbL ls ls) (some (([AV.dat (D.bool !List.any (List.range (List.length ls)) (badX ls))], []) : Res)) none)
  generalize (decide ((↑(List.length ls) : Int) = (↑(List.length ls) : Int)) && okX ls && D.eqbL ls ls) = z0
  cases z0 with
  | true =>
   generalize (List.any (List.range (List.length ls)) (badX ls)) = z1
   cases z1 with
   | true =>
    rfl
   | false =>
    rfl
  | false =>
   rfl
  )
theorem cexok_ok : FunOk Try.prog 14 (FunT.run C_exok) := by
  refine fun_ok (E := envOf tab SpE [] [(2, L_ex)] HE) (fz := true) (fn := Try.f14) (envOf_ok progOk SpE_ok) (by kernel_rfl) (by kernel_rfl) (loops_one (by kernel_rfl) (ex_loopOk _ rfl)) ?_
  intro args σ r h
  unfold C_exok at h
  split at h
  · exact (exok_case0 _).trans h
  · simp [T.run_fail] at h

abbrev SpF : Specs := [(14, C_exok), (22, C_index), (23, C_isref), (24, C_isdir), (25, C_exits), (26, C_adx), (27, C_ptx)]
theorem SpF_ok : SpecsOk Try.prog SpF := .cons cexok_ok (.cons cindex_ok (.cons cisref_ok (.cons cisdir_ok (.cons cexits_ok (.cons cadx_ok (.cons cptx_ok (.nil _)))))))
def link_v0 (ls : List D) (a : Int) (b : Int) (x : Int) (y : Int) (d : Int) : List D := bif exok_v0 ls then bif isref_v0 a b then bif isref_v0 x y then bif isdir_v0 d then bif decide (ix_idx a b d ls ≥ (0 : Int)) then [] else adx_v0 ls true a b x y d else [] else [] else [] else []
def link_v1 (ls : List D) (a : Int) (b : Int) (x : Int) (y : Int) (d : Int) : Int := bif exok_v0 ls then bif isref_v0 a b then bif isref_v0 x y then bif isdir_v0 d then bif decide (ix_idx a b d ls ≥ (0 : Int)) then (0 : Int) else adx_v1 ls else (0 : Int) else (0 : Int) else (0 : Int) else (0 : Int)
def link_v2 (ls : List D) (a : Int) (b : Int) (x : Int) (y : Int) (d : Int) : Int := bif exok_v0 ls then bif isref_v0 a b then bif isref_v0 x y then bif isdir_v0 d then bif decide (ix_idx a b d ls ≥ (0 : Int)) then (4 : Int) else adx_v2 ls else (1 : Int) else (1 : Int) else (1 : Int) else (1 : Int)
def link_pre (ls : List D) (a : Int) (b : Int) (x : Int) (y : Int) (d : Int) : Bool := exok_pre ls && (!exok_v0 ls || (!isref_v0 a b || (!isref_v0 x y || (!isdir_v0 d || ix_okL a b d ls && (decide (ix_idx a b d ls ≥ (0 : Int)) || ofx_pre ls && (D.eqb (D.agg [D.int IntKind.i64 a, D.int IntKind.i64 b]) (D.agg [D.int IntKind.i64 a, D.int IntKind.i64 b]) && (D.eqb (D.agg [D.int IntKind.i64 x, D.int IntKind.i64 y]) (D.agg [D.int IntKind.i64 x, D.int IntKind.i64 y]) && adx_pre ls true a b x y d)))))))
def C_link : FunT := fun args σ => match args, σ with
  | [AV.dat (D.slc (Sh.agg [Sh.one, Sh.agg [Sh.one, Sh.one], Sh.agg [Sh.one, Sh.one], Sh.one]) ls), AV.dat (D.agg [D.int IntKind.i64 a, D.int IntKind.i64 b]), AV.dat (D.agg [D.int IntKind.i64 x, D.int IntKind.i64 y]), AV.dat (D.int IntKind.i64 d)], [] => .chk ((link_pre ls a b x y d)) (.leaf ([AV.dat (D.slc (Sh.agg [Sh.one, Sh.agg [Sh.one, Sh.one], Sh.agg [Sh.one, Sh.one], Sh.one]) (link_v0 ls a b x y d)), AV.dat (D.int IntKind.i64 (link_v1 ls a b x y d)), AV.dat (D.int IntKind.i64 (link_v2 ls a b x y d))], []))
  | _, _ => .fail
theorem link_raw0 (ls : List D) (a b x y d : Int) : runF (envOf tab SpF [] [] []) true Try.f12 [.dat (.slc (.agg [.one, .agg [.one, .one], .agg [.one, .one], .one]) ls), .dat (.agg [.int .i64 a, .int .i64 b]), .dat (.agg [.int .i64 x, .int .i64 y]), .dat (.int .i64 d)] [] =
  (bif exok_pre ls then 
   (bif (!exok_v0 ls) == false then 
    (bif !exok_v0 ls then some ([AV.dat (D.slc (Sh.agg [Sh.one, Sh.agg [Sh.one, Sh.one], Sh.agg [Sh.one, Sh.one], Sh.one]) []), AV.dat (D.int IntKind.i64 (0 : Int)), AV.dat (D.int IntKind.i64 (1 : Int))], []) else 
     (bif (!isref_v0 a b) == false then 
      (bif !isref_v0 a b then some ([AV.dat (D.slc (Sh.agg [Sh.one, Sh.agg [Sh.one, Sh.one], Sh.agg [Sh.one, Sh.one], Sh.one]) []), AV.dat (D.int IntKind.i64 (0 : Int)), AV.dat (D.int IntKind.i64 (1 : Int))], []) else 
       (bif (!isref_v0 x y) == false then 
        (bif !isref_v0 x y then some ([AV.dat (D.slc (Sh.agg [Sh.one, Sh.agg [Sh.one, Sh.one], Sh.agg [Sh.one, Sh.one], Sh.one]) []), AV.dat (D.int IntKind.i64 (0 : Int)), AV.dat (D.int IntKind.i64 (1 : Int))], []) else 
         (bif !isdir_v0 d then some ([AV.dat (D.slc (Sh.agg [Sh.one, Sh.agg [Sh.one, Sh.one], Sh.agg [Sh.one, Sh.one], Sh.one]) []), AV.dat (D.int IntKind.i64 (0 : Int)), AV.dat (D.int IntKind.i64 (1 : Int))], []) else 
          (bif ix_okL a b d ls then 
           (bif decide (ix_idx a b d ls ≥ (0 : Int)) then some ([AV.dat (D.slc (Sh.agg [Sh.one, Sh.agg [Sh.one, Sh.one], Sh.agg [Sh.one, Sh.one], Sh.one]) []), AV.dat (D.int IntKind.i64 (0 : Int)), AV.dat (D.int IntKind.i64 (4 : Int))], []) else 
            (bif ofx_pre ls then 
             (bif D.eqb (D.agg [D.int IntKind.i64 a, D.int IntKind.i64 b]) (D.agg [D.int IntKind.i64 a, D.int IntKind.i64 b]) && true then 
              (bif D.eqb (D.agg [D.int IntKind.i64 x, D.int IntKind.i64 y]) (D.agg [D.int IntKind.i64 x, D.int IntKind.i64 y]) && true then 
               (bif adx_pre ls true a b x y d then some ([AV.dat (D.slc (Sh.agg [Sh.one, Sh.agg [Sh.one, Sh.one], Sh.agg [Sh.one, Sh.one], Sh.one]) (adx_v0 ls true a b x y d)), AV.dat (D.int IntKind.i64 (adx_v1 ls)), AV.dat (D.int IntKind.i64 (adx_v2 ls))], []) else none) else none) else none) else none)) else none))) else 
        (bif !isref_v0 x y then some ([AV.dat (D.slc (Sh.agg [Sh.one, Sh.agg [Sh.one, Sh.one], Sh.agg [Sh.one, Sh.one], Sh.one]) []), AV.dat (D.int IntKind.i64 (0 : Int)), AV.dat (D.int IntKind.i64 (1 : Int))], []) else none))) else 
      (bif !isref_v0 a b then some ([AV.dat (D.slc (Sh.agg [Sh.one, Sh.agg [Sh.one, Sh.one], Sh.agg [Sh.one, Sh.one], Sh.one]) []), AV.dat (D.int IntKind.i64 (0 : Int)), AV.dat (D.int IntKind.i64 (1 : Int))], []) else none))) else 
    (bif !exok_v0 ls then some ([AV.dat (D.slc (Sh.agg [Sh.one, Sh.agg [Sh.one, Sh.one], Sh.agg [Sh.one, Sh.one], Sh.one]) []), AV.dat (D.int IntKind.i64 (0 : Int)), AV.dat (D.int IntKind.i64 (1 : Int))], []) else none)) else none) := by kernel_rfl
theorem link_case0 (ls : List D) (a b x y d : Int) : runF (envOf tab SpF [] [] []) true Try.f12 [.dat (.slc (.agg [.one, .agg [.one, .one], .agg [.one, .one], .one]) ls), .dat (.agg [.int .i64 a, .int .i64 b]), .dat (.agg [.int .i64 x, .int .i64 y]), .dat (.int .i64 d)] [] = FunT.run C_link [.dat (.slc (.agg [.one, .agg [.one, .one], .agg [.one, .one], .one]) ls), .dat (.agg [.int .i64 a, .int .i64 b]), .dat (.agg [.int .i64 x, .int .i64 y]), .dat (.int .i64 d)] [] := (link_raw0 ls a b x y d).trans (by
  show _ = (cond (exok_pre ls && (!exok_v0 ls || (!isref_v0 a b || (!isref_v0 x y || (!isdir_v0 d || ix_okL a b d ls && (decide (ix_idx a b d ls ≥ (0 : Int)) || ofx_pre ls && (D.eqb (D.agg [D.int IntKind.i64 a, D.int IntKind.i64 b]) (D.agg [D.int IntKind.i64 a, D.int IntKind.i64 b]) && (D.eqb (D.agg [D.int IntKind.i64 x, D.int IntKind.i64 y]) (D.agg [D.int IntKind.i64 x, D.int IntKind.i64 y]) && adx_pre ls true a b x y d)))))))) (some (([AV.dat (D.slc (Sh.agg [Sh.one, Sh.agg [Sh.one, Sh.one], Sh.agg [Sh.one, Sh.one], Sh.one]) (bif exok_v0 ls then bif isref_v0 a b then bif isref_v0 x y then bif isdir_v0 d then bif decide (ix_idx a b d ls ≥ (0 : Int)) then [] else adx_v0 ls true a b x y d else [] else [] else [] else [])), AV.dat (D.int IntKind.i64 (bif exok_v0 ls then bif isref_v0 a b then bif isref_v0 x y then bif isdir_v0 d then bif decide (ix_idx a b d ls ≥ (0 : Int)) then (0 : Int) else adx_v1 ls else (0 : Int) else (0 : Int) else (0 : Int) else (0 : Int))), AV.dat (D.int IntKind.i64 (bif exok_v0 ls then bif isref_v0 a b then bif isref_v0 x y then bif isdir_v0 d then bif decide (ix_idx a b d ls ≥ (0 : Int)) then (4 : Int) else adx_v2 ls else (1 : Int) else (1 : Int) else (1 : Int) else (1 : Int)))], []) : Res)) none)
  generalize (exok_pre ls) = z0
  cases z0 with
  | true =>
   generalize (exok_v0 ls) = z1
   cases z1 with
   | true =>
    generalize (isref_v0 a b) = z2
    cases z2 with
    | true =>
     generalize (isref_v0 x y) = z3
     cases z3 with
     | true =>
      generalize (isdir_v0 d) = z4
      cases z4 with
      | true =>
       generalize (ix_okL a b d ls) = z5
       cases z5 with
       | true =>
        generalize (decide (ix_idx a b d ls ≥ (0 : Int))) = z6
        cases z6 with
        | true =>
         rfl
        | false =>
         generalize (ofx_pre ls) = z7
         cases z7 with
         | true =>
          generalize (D.eqb (D.agg [D.int IntKind.i64 a, D.int IntKind.i64 b]) (D.agg [D.int IntKind.i64 a, D.int IntKind.i64 b])) = z8
          cases z8 with
          | true =>
           generalize (D.eqb (D.agg [D.int IntKind.i64 x, D.int IntKind.i64 y]) (D.agg [D.int IntKind.i64 x, D.int IntKind.i64 y])) = z9
           cases z9 with
           | true =>
            generalize (adx_pre ls true a b x y d) = z10
            cases z10 with
            | true =>
             rfl
            | false =>
             rfl
           | false =>
            rfl
          | false =>
           rfl
         | false =>
          rfl
       | false =>
        rfl
      | false =>
       rfl
     | false =>
      rfl
    | false =>
     rfl
   | false =>
    rfl
  | false =>
   rfl
  )
theorem clink_ok : FunOk Try.prog 12 (FunT.run C_link) := by
  refine fun_ok (E := envOf tab SpF [] [] []) (fz := true) (fn := Try.f12) (envOf_ok progOk SpF_ok) (by kernel_rfl) (by kernel_rfl) (loops_none (by kernel_rfl)) ?_
  intro args σ r h
  unfold C_link at h
  split at h
  · exact (link_case0 _ _ _ _ _ _).trans h
  · simp [T.run_fail] at h

def close_v0 (ls : List D) (a : Int) (b : Int) (d : Int) : List D := bif exok_v0 ls then bif decide (ix_idx a b d ls < (0 : Int)) then [] else ptx_v0 ls (ix_idx a b d ls) false (0 : Int) (0 : Int) (0 : Int) (0 : Int) (0 : Int) else []
def close_v1 (ls : List D) (a : Int) (b : Int) (d : Int) : Int := bif exok_v0 ls then bif decide (ix_idx a b d ls < (0 : Int)) then (3 : Int) else ptx_v1 ls (ix_idx a b d ls) else (1 : Int)
def close_pre (ls : List D) (a : Int) (b : Int) (d : Int) : Bool := exok_pre ls && (!exok_v0 ls || ix_okL a b d ls && (decide (ix_idx a b d ls < (0 : Int)) || ofx_pre ls && ptx_pre ls (ix_idx a b d ls) false (0 : Int) (0 : Int) (0 : Int) (0 : Int) (0 : Int)))
def C_close : FunT := fun args σ => match args, σ with
  | [AV.dat (D.slc (Sh.agg [Sh.one, Sh.agg [Sh.one, Sh.one], Sh.agg [Sh.one, Sh.one], Sh.one]) ls), AV.dat (D.agg [D.int IntKind.i64 a, D.int IntKind.i64 b]), AV.dat (D.int IntKind.i64 d)], [] => .chk ((close_pre ls a b d)) (.leaf ([AV.dat (D.slc (Sh.agg [Sh.one, Sh.agg [Sh.one, Sh.one], Sh.agg [Sh.one, Sh.one], Sh.one]) (close_v0 ls a b d)), AV.dat (D.int IntKind.i64 (close_v1 ls a b d))], []))
  | _, _ => .fail
theorem close_raw0 (ls : List D) (a b d : Int) : runF (envOf tab SpF [] [] []) true Try.f13 [.dat (.slc (.agg [.one, .agg [.one, .one], .agg [.one, .one], .one]) ls), .dat (.agg [.int .i64 a, .int .i64 b]), .dat (.int .i64 d)] [] =
  (bif exok_pre ls then 
   (bif !exok_v0 ls then some ([AV.dat (D.slc (Sh.agg [Sh.one, Sh.agg [Sh.one, Sh.one], Sh.agg [Sh.one, Sh.one], Sh.one]) []), AV.dat (D.int IntKind.i64 (1 : Int))], []) else 
    (bif ix_okL a b d ls then 
     (bif decide (ix_idx a b d ls < (0 : Int)) then some ([AV.dat (D.slc (Sh.agg [Sh.one, Sh.agg [Sh.one, Sh.one], Sh.agg [Sh.one, Sh.one], Sh.one]) []), AV.dat (D.int IntKind.i64 (3 : Int))], []) else 
      (bif ofx_pre ls then 
       (bif ptx_pre ls (ix_idx a b d ls) false (0 : Int) (0 : Int) (0 : Int) (0 : Int) (0 : Int) then some ([AV.dat (D.slc (Sh.agg [Sh.one, Sh.agg [Sh.one, Sh.one], Sh.agg [Sh.one, Sh.one], Sh.one]) (ptx_v0 ls (ix_idx a b d ls) false (0 : Int) (0 : Int) (0 : Int) (0 : Int) (0 : Int))), AV.dat (D.int IntKind.i64 (ptx_v1 ls (ix_idx a b d ls)))], []) else none) else none)) else none)) else none) := by kernel_rfl
theorem close_case0 (ls : List D) (a b d : Int) : runF (envOf tab SpF [] [] []) true Try.f13 [.dat (.slc (.agg [.one, .agg [.one, .one], .agg [.one, .one], .one]) ls), .dat (.agg [.int .i64 a, .int .i64 b]), .dat (.int .i64 d)] [] = FunT.run C_close [.dat (.slc (.agg [.one, .agg [.one, .one], .agg [.one, .one], .one]) ls), .dat (.agg [.int .i64 a, .int .i64 b]), .dat (.int .i64 d)] [] := (close_raw0 ls a b d).trans (by
  show _ = (cond (exok_pre ls && (!exok_v0 ls || ix_okL a b d ls && (decide (ix_idx a b d ls < (0 : Int)) || ofx_pre ls && ptx_pre ls (ix_idx a b d ls) false (0 : Int) (0 : Int) (0 : Int) (0 : Int) (0 : Int)))) (some (([AV.dat (D.slc (Sh.agg [Sh.one, Sh.agg [Sh.one, Sh.one], Sh.agg [Sh.one, Sh.one], Sh.one]) (bif exok_v0 ls then bif decide (ix_idx a b d ls < (0 : Int)) then [] else ptx_v0 ls (ix_idx a b d ls) false (0 : Int) (0 : Int) (0 : Int) (0 : Int) (0 : Int) else [])), AV.dat (D.int IntKind.i64 (bif exok_v0 ls then bif decide (ix_idx a b d ls < (0 : Int)) then (3 : Int) else ptx_v1 ls (ix_idx a b d ls) else (1 : Int)))], []) : Res)) none)
  generalize (exok_pre ls) = z0
  cases z0 with
  | true =>
   generalize (exok_v0 ls) = z1
   cases z1 with
   | true =>
    generalize (ix_okL a b d ls) = z2
    cases z2 with
    | true =>
     generalize (decide (ix_idx a b d ls < (0 : Int))) = z3
     cases z3 with
     | true =>
      rfl
     | false =>
      generalize (ofx_pre ls) = z4
      cases z4 with
      | true =>
       generalize (ptx_pre ls (ix_idx a b d ls) false (0 : Int) (0 : Int) (0 : Int) (0 : Int) (0 : Int)) = z5
       cases z5 with
       | true =>
        rfl
       | false =>
        rfl
      | false =>
       rfl
    | false =>
     rfl
   | false =>
    rfl
  | false =>
   rfl
  )
theorem cclose_ok : FunOk Try.prog 13 (FunT.run C_close) := by
  refine fun_ok (E := envOf tab SpF [] [] []) (fz := true) (fn := Try.f13) (envOf_ok progOk SpF_ok) (by kernel_rfl) (by kernel_rfl) (loops_none (by kernel_rfl)) ?_
  intro args σ r h
  unfold C_close at h
  split at h
  · exact (close_case0 _ _ _ _).trans h
  · simp [T.run_fail] at h

def find_v0 (ls : List D) (a : Int) (b : Int) (d : Int) : Int := bif decide (ix_idx a b d ls < (0 : Int)) then (0 : Int) else D.getI (nthD (D.getL (nthD (D.getL (nthD ls (Int.toNat (ix_idx a b d ls)))) (2 : Nat))) (0 : Nat))
def find_v1 (ls : List D) (a : Int) (b : Int) (d : Int) : Int := bif decide (ix_idx a b d ls < (0 : Int)) then (0 : Int) else D.getI (nthD (D.getL (nthD (D.getL (nthD ls (Int.toNat (ix_idx a b d ls)))) (2 : Nat))) (1 : Nat))
def find_v2 (ls : List D) (a : Int) (b : Int) (d : Int) : Bool := !decide (ix_idx a b d ls < (0 : Int))
def find_pre (ls : List D) (a : Int) (b : Int) (d : Int) : Bool := ix_okL a b d ls && (decide (ix_idx a b d ls < (0 : Int)) || decide ((0 : Int) ≤ ix_idx a b d ls) && (decide (Int.toNat (ix_idx a b d ls) < List.length ls) && okE (Ek.agg [Ek.bool, Ek.agg [Ek.int IntKind.i64, Ek.int IntKind.i64], Ek.agg [Ek.int IntKind.i64, Ek.int IntKind.i64], Ek.int IntKind.i64]) (nthD ls (Int.toNat (ix_idx a b d ls)))))
def C_find : FunT := fun args σ => match args, σ with
  | [AV.dat (D.slc (Sh.agg [Sh.one, Sh.agg [Sh.one, Sh.one], Sh.agg [Sh.one, Sh.one], Sh.one]) ls), AV.dat (D.agg [D.int IntKind.i64 a, D.int IntKind.i64 b]), AV.dat (D.int IntKind.i64 d)], [] => .chk ((find_pre ls a b d)) (.leaf ([AV.dat (D.agg [D.int IntKind.i64 (find_v0 ls a b d), D.int IntKind.i64 (find_v1 ls a b d)]), AV.dat (D.bool (find_v2 ls a b d))], []))
  | _, _ => .fail
theorem find_raw0 (ls : List D) (a b d : Int) : runF (envOf tab SpF [] [] []) true Try.f11 [.dat (.slc (.agg [.one, .agg [.one, .one], .agg [.one, .one], .one]) ls), .dat (.agg [.int .i64 a, .int .i64 b]), .dat (.int .i64 d)] [] =
  (bif ix_okL a b d ls then 
   (bif decide (ix_idx a b d ls < (0 : Int)) then some ([AV.dat (D.agg [D.int IntKind.i64 (0 : Int), D.int IntKind.i64 (0 : Int)]), AV.dat (D.bool false)], []) else 
    (bif decide ((0 : Int) ≤ ix_idx a b d ls) then 
     (bif decide (Int.toNat (ix_idx a b d ls) < List.length ls) then 
      (bif okE (Ek.agg [Ek.bool, Ek.agg [Ek.int IntKind.i64, Ek.int IntKind.i64], Ek.agg [Ek.int IntKind.i64, Ek.int IntKind.i64], Ek.int IntKind.i64]) (nthD ls (Int.toNat (ix_idx a b d ls))) then some ([AV.dat (D.agg [D.int IntKind.i64 (D.getI (nthD (D.getL (nthD (D.getL (nthD ls (Int.toNat (ix_idx a b d ls)))) (2 : Nat))) (0 : Nat))), D.int IntKind.i64 (D.getI (nthD (D.getL (nthD (D.getL (nthD ls (Int.toNat (ix_idx a b d ls)))) (2 : Nat))) (1 : Nat)))]), AV.dat (D.bool true)], []) else none) else none) else none)) else none) := by kernel_rfl
theorem find_case0 (ls : List D) (a b d : Int) : runF (envOf tab SpF [] [] []) true Try.f11 [.dat (.slc (.agg [.one, .agg [.one, .one], .agg [.one, .one], .one]) ls), .dat (.agg [.int .i64 a, .int .i64 b]), .dat (.int .i64 d)] [] = FunT.run C_find [.dat (.slc (.agg [.one, .agg [.one, .one], .agg [.one, .one], .one]) ls), .dat (.agg [.int .i64 a, .int .i64 b]), .dat (.int .i64 d)] [] := (find_raw0 ls a b d).trans (by
  show _ = (cond (ix_okL a b d ls && (decide (ix_idx a b d ls < (0 : Int)) || decide ((0 : Int) ≤ ix_idx a b d ls) && (decide (Int.toNat (ix_idx a b d ls) < List.length ls) && okE (Ek.agg [Ek.bool, Ek.agg [Ek.int IntKind.i64, Ek.int IntKind.i64], Ek.agg [Ek.int IntKind.i64, Ek.int IntKind.i64], Ek.int IntKind.i64]) (nthD ls (Int.toNat (ix_idx a b d ls)))))) (some (([AV.dat (D.agg [D.int IntKind.i64 (bif decide (ix_idx a b d ls < (0 : Int)) then (0 : Int) else D.getI (nthD (D.getL (nthD (D.getL (nthD ls (Int.toNat (ix_idx a b d ls)))) (2 : Nat))) (0 : Nat))), D.int IntKind.i64 (bif decide (ix_idx a b d ls < (0 : Int)) then (0 : Int) else D.getI (nthD (D.getL (nthD (D.getL (nthD ls (Int.toNat (ix_idx a b d ls)))) (2 : Nat))) (1 : Nat)))]), AV.dat (D.bool !decide (ix_idx a b d ls < (0 : Int)))], []) : Res)) none)
  generalize (ix_okL a b d ls) = z0
  cases z0 with
  | true =>
   generalize (decide (ix_idx a b d ls < (0 : Int))) = z1
   cases z1 with
   | true =>
    rfl
   | false =>
    generalize (decide ((0 : Int) ≤ ix_idx a b d ls)) = z2
    cases z2 with
    | true =>
     generalize (decide (Int.toNat (ix_idx a b d ls) < List.length ls)) = z3
     cases z3 with
     | true =>
      generalize (okE (Ek.agg [Ek.bool, Ek.agg [Ek.int IntKind.i64, Ek.int IntKind.i64], Ek.agg [Ek.int IntKind.i64, Ek.int IntKind.i64], Ek.int IntKind.i64]) (nthD ls (Int.toNat (ix_idx a b d ls)))) = z4
      cases z4 with
      | true =>
       rfl
      | false =>
       rfl
     | false =>
      rfl
    | false =>
     rfl
  | false =>
   rfl
  )
theorem cfind_ok : FunOk Try.prog 11 (FunT.run C_find) := by
  refine fun_ok (E := envOf tab SpF [] [] []) (fz := true) (fn := Try.f11) (envOf_ok progOk SpF_ok) (by kernel_rfl) (by kernel_rfl) (loops_none (by kernel_rfl)) ?_
  intro args σ r h
  unfold C_find at h
  split at h
  · exact (find_case0 _ _ _ _).trans h
  · simp [T.run_fail] at h

def ways_fr (ls : List D) (_ _ : Int) : (Int × Nat × Nat × List D) → Frame' := fun ⟨i, m, k, _⟩ => mkF 21 [(0, .dat (.slc (.agg [.one, .agg [.one, .one], .agg [.one, .one], .one]) ls)), (3, .ptr (.agg [.one, .one]) 0 0 []), (5, .sref .one 1 m [] 0 k), (7, .dat (.int .i64 i))]
def ways_st (_ : List D) (a b : Int) : (Int × Nat × Nat × List D) → Store := fun ⟨_, _, _, out⟩ => [boxR a b, mkDyn .one out]
def ways_step (ls : List D) (a b : Int) : (Int × Nat × Nat × List D) → T ((Int × Nat × Nat × List D) ⊕ LOut) := fun ⟨i, m, k, out⟩ => 
  .chk (!decide (i < (6 : Int)) || ix_okL a b i ls && (!decide (ix_idx a b i ls ≥ (0 : Int)) || Nat.beq (List.length out) m && true && true && true && true && Nat.beq k m && true && true && decide ((m + (1 : Nat)) * (8 : Nat) ≤ (35184372088832 : Nat)))) (
   .br (!decide (i < (6 : Int))) (.leaf (.inr ((some (0 : Nat)), mkF (21 : Nat) [((5 : Nat), AV.sref Sh.one (1 : Nat) m [] (0 : Nat) k)], [{ sh := Sh.agg [Sh.one, Sh.one], dyn := false, frz := false, v := AV.dat (D.agg [D.int IntKind.i64 a, D.int IntKind.i64 b]) }, { sh := Sh.arr Sh.one (0 : Nat), dyn := true, frz := false, v := AV.dat (D.arr Sh.one out) }]))) (.leaf (.inl ((IntKind.wrap IntKind.i64 (i + (1 : Int))), (bif decide (ix_idx a b i ls ≥ (0 : Int)) then m + (1 : Nat) else m), (bif decide (ix_idx a b i ls ≥ (0 : Int)) then m + (1 : Nat) else k), (bif decide (ix_idx a b i ls ≥ (0 : Int)) then out ++ [D.int IntKind.i64 i] else out)))))
theorem ways_round (lp : Loops) (ls : List D) (a b : Int) (i : Int) (m k : Nat) (out : List D) (K : Kt) : oneRound (envOf tab SpF [] lp []) Try.f19 0 (2) (mkF 21 [(0, .dat (.slc (.agg [.one, .agg [.one, .one], .agg [.one, .one], .one]) ls)), (3, .ptr (.agg [.one, .one]) 0 0 []), (5, .sref .one 1 m [] 0 k), (7, .dat (.int .i64 i))]) ([boxR a b, mkDyn .one out]) K =
  (bif decide (i < (6 : Int)) then 
   (bif ix_okL a b i ls then 
    (bif decide (ix_idx a b i ls ≥ (0 : Int)) then 
     (bif Nat.beq (List.length out) m && true && true && true && true && Nat.beq k m && true && true && decide ((m + (1 : Nat)) * (8 : Nat) ≤ (35184372088832 : Nat)) then K (Exit.normal) (mkF (21 : Nat) [((0 : Nat), AV.dat (D.slc (Sh.agg [Sh.one, Sh.agg [Sh.one, Sh.one], Sh.agg [Sh.one, Sh.one], Sh.one]) ls)), ((3 : Nat), AV.ptr (Sh.agg [Sh.one, Sh.one]) (0 : Nat) (0 : Nat) []), ((5 : Nat), AV.sref Sh.one (1 : Nat) (m + (1 : Nat)) [] (0 : Nat) (m + (1 : Nat))), ((7 : Nat), AV.dat (D.int IntKind.i64 (IntKind.wrap IntKind.i64 (i + (1 : Int))))), ((8 : Nat), AV.dat (D.bool (decide (i < (6 : Int))))), ((19 : Nat), AV.dat (D.int IntKind.i64 (IntKind.wrap IntKind.i64 (i + (1 : Int)))))]) ([{ sh := Sh.agg [Sh.one, Sh.one], dyn := false, frz := false, v := AV.dat (D.agg [D.int IntKind.i64 a, D.int IntKind.i64 b]) }, { sh := Sh.arr Sh.one (0 : Nat), dyn := true, frz := false, v := AV.dat (D.arr Sh.one (out ++ [D.int IntKind.i64 i])) }, { sh := Sh.arr Sh.one (0 : Nat), dyn := true, frz := false, v := AV.dat (D.arr Sh.one [D.int IntKind.i64 i]) }]) else none) else K (Exit.normal) (mkF (21 : Nat) [((0 : Nat), AV.dat (D.slc (Sh.agg [Sh.one, Sh.agg [Sh.one, Sh.one], Sh.agg [Sh.one, Sh.one], Sh.one]) ls)), ((3 : Nat), AV.ptr (Sh.agg [Sh.one, Sh.one]) (0 : Nat) (0 : Nat) []), ((5 : Nat), AV.sref Sh.one (1 : Nat) m [] (0 : Nat) k), ((7 : Nat), AV.dat (D.int IntKind.i64 (IntKind.wrap IntKind.i64 (i + (1 : Int))))), ((8 : Nat), AV.dat (D.bool (decide (i < (6 : Int))))), ((19 : Nat), AV.dat (D.int IntKind.i64 (IntKind.wrap IntKind.i64 (i + (1 : Int)))))]) ([{ sh := Sh.agg [Sh.one, Sh.one], dyn := false, frz := false, v := AV.dat (D.agg [D.int IntKind.i64 a, D.int IntKind.i64 b]) }, { sh := Sh.arr Sh.one (0 : Nat), dyn := true, frz := false, v := AV.dat (D.arr Sh.one out) }])) else none) else K (Exit.exit (0 : Nat)) (mkF (21 : Nat) [((5 : Nat), AV.sref Sh.one (1 : Nat) m [] (0 : Nat) k)]) ([{ sh := Sh.agg [Sh.one, Sh.one], dyn := false, frz := false, v := AV.dat (D.agg [D.int IntKind.i64 a, D.int IntKind.i64 b]) }, { sh := Sh.arr Sh.one (0 : Nat), dyn := true, frz := false, v := AV.dat (D.arr Sh.one out) }])) := by kernel_rfl
theorem ways_hr (lp : Loops) (ls : List D) (a b : Int) : ∀ (sA : (Int × Nat × Nat × List D)) (K : Kt) (N : (Int × Nat × Nat × List D) → Option Res), (∀ sB fr' σ', cleanF (liveAt Try.f19 0) 0 fr' = ways_fr ls a b sB → trim (2) (ways_fr ls a b sB) σ' = ways_st ls a b sB → K .normal fr' σ' = N sB) →
    oneRound (envOf tab SpF [] lp []) Try.f19 0 (2) (ways_fr ls a b sA) (ways_st ls a b sA) K = (ways_step ls a b sA).k (LK K N) := by
  intro sA K N hN
  obtain ⟨i, m, k, out⟩ := sA
  refine (ways_round lp ls a b i m k out K).trans ?_
  show _ = T.k ((
  .chk (!decide (i < (6 : Int)) || ix_okL a b i ls && (!decide (ix_idx a b i ls ≥ (0 : Int)) || Nat.beq (List.length out) m && true && true && true && true && Nat.beq k m && true && true && decide ((m + (1 : Nat)) * (8 : Nat) ≤ (35184372088832 : Nat)))) (
   .br (!decide (i < (6 : Int))) (.leaf (.inr ((some (0 : Nat)), mkF (21 : Nat) [((5 : Nat), AV.sref Sh.one (1 : Nat) m [] (0 : Nat) k)], [{ sh := Sh.agg [Sh.one, Sh.one], dyn := false, frz := false, v := AV.dat (D.agg [D.int IntKind.i64 a, D.int IntKind.i64 b]) }, { sh := Sh.arr Sh.one (0 : Nat), dyn := true, frz := false, v := AV.dat (D.arr Sh.one out) }]))) (.leaf (.inl ((IntKind.wrap IntKind.i64 (i + (1 : Int))), (bif decide (ix_idx a b i ls ≥ (0 : Int)) then m + (1 : Nat) else m), (bif decide (ix_idx a b i ls ≥ (0 : Int)) then m + (1 : Nat) else k), (bif decide (ix_idx a b i ls ≥ (0 : Int)) then out ++ [D.int IntKind.i64 i] else out)))))) : T ((Int × Nat × Nat × List D) ⊕ LOut)) (LK K N)
  generalize (decide (i < (6 : Int))) = z0
  cases z0 with
  | true =>
   generalize (ix_okL a b i ls) = z1
   cases z1 with
   | true =>
    generalize (decide (ix_idx a b i ls ≥ (0 : Int))) = z2
    cases z2 with
    | true =>
     generalize (Nat.beq (List.length out) m && true && true && true && true && Nat.beq k m && true && true && decide ((m + (1 : Nat)) * (8 : Nat) ≤ (35184372088832 : Nat))) = z3
     cases z3 with
     | true =>
      exact hN _ _ _ (by kernel_rfl) (by kernel_rfl)
     | false =>
      rfl
    | false =>
     exact hN _ _ _ (by kernel_rfl) (by kernel_rfl)
   | false =>
    rfl
  | false =>
   rfl
theorem ways_enter (ls : List D) (a b : Int) (i : Int) (m k : Nat) (out : List D) (fr : Frame') (hl : Nat.beq fr.length 21 = true) (g0 : fr.getD 0 .undef = AV.dat (D.slc (Sh.agg [Sh.one, Sh.agg [Sh.one, Sh.one], Sh.agg [Sh.one, Sh.one], Sh.one]) ls)) (g3 : fr.getD 3 .undef = AV.ptr (Sh.agg [Sh.one, Sh.one]) 0 0 []) (g5 : fr.getD 5 .undef = AV.sref Sh.one 1 m [] 0 k) (g7 : fr.getD 7 .undef = AV.dat (D.int IntKind.i64 i)) : cleanF (liveAt Try.f19 0) 0 fr = ways_fr ls a b (i, m, k, out) := by
  have e : liveAt Try.f19 0 = [0, 3, 7, 5] := by kernel_rfl
  rw [clean_mk (Nat.eq_of_beq_eq_true hl), e]
  show mkF 21 [(0, fr.getD 0 .undef), (3, fr.getD 3 .undef), (7, fr.getD 7 .undef), (5, fr.getD 5 .undef)] = _
  rw [g0, g3, g7, g5]
  kernel_rfl


def wayTo (ls : List D) (a b : Int) : Nat → List D
  | 0 => []
  | i + 1 => bif decide (ix_idx a b (i : Int) ls ≥ (0 : Int)) then wayTo ls a b i ++ [D.int .i64 (i : Int)] else wayTo ls a b i
theorem wayTo_len (ls : List D) (a b : Int) : ∀ i, (wayTo ls a b i).length ≤ i
  | 0 => Nat.le_refl _
  | i + 1 => by
    have := wayTo_len ls a b i
    unfold wayTo
    cases decide (ix_idx a b (i : Int) ls ≥ (0 : Int)) with
    | true => rw [cond_true, List.length_append]; exact Nat.succ_le_succ this
    | false => exact Nat.le_succ_of_le this
theorem ways_closed (ls : List D) (a b : Int) (hc : okX ls = true) :
    ∃ z, (iterT (ways_step ls a b) z (0, 0, 0, [])).run = T.run (.leaf (some 0, mkF 21 [(5, .sref .one 1 (wayTo ls a b 6).length [] 0 (wayTo ls a b 6).length)], [boxR a b, mkDyn .one (wayTo ls a b 6)])) := by
  refine iter_range (n := 6) (fun i => ((wayTo ls a b i).length, (wayTo ls a b i).length, wayTo ls a b i)) (fun i hi => ?_) ?_
  · have := wayTo_len ls a b i
    unfold ways_step
    simp only [decide_eq_true (show (i : Int) < 6 by omega), okX_ix hc, beq_self, decide_eq_true (show ((wayTo ls a b i).length + 1) * 8 ≤ 35184372088832 by omega), wrap_succ (show i < 2 ^ 62 by omega), Bool.and_true, Bool.or_true, Bool.not_true, T.run_chk, T.run_br, T.run_leaf, cond_true, cond_false, wayTo]
    cases decide (ix_idx a b (i : Int) ls ≥ 0) with
    | true => simp only [cond_true, List.length_append]; rfl
    | false => rfl
  · rfl
def L_ways : Frame' → Store → T (Exit × Frame' × Store) := fun fr σ => match fr.getD 0 .undef, fr.getD 3 .undef, fr.getD 5 .undef, fr.getD 7 .undef, σ with
  | AV.dat (D.slc (Sh.agg [Sh.one, Sh.agg [Sh.one, Sh.one], Sh.agg [Sh.one, Sh.one], Sh.one]) ls), AV.ptr (Sh.agg [Sh.one, Sh.one]) 0 0 [], AV.sref Sh.one 1 0 [] 0 0, AV.dat (D.int IntKind.i64 0), [{ sh := Sh.agg [Sh.one, Sh.one], dyn := false, frz := false, v := AV.dat (D.agg [D.int IntKind.i64 a, D.int IntKind.i64 b]) }, { sh := Sh.arr Sh.one 0, dyn := true, frz := false, v := AV.dat (D.arr Sh.one []) }] => .chk (Nat.beq fr.length 21 && (okX ls)) (T.bind (.leaf (some 0, mkF 21 [(5, .sref .one 1 (wayTo ls a b 6).length [] 0 (wayTo ls a b 6).length)], [boxR a b, mkDyn .one (wayTo ls a b 6)])) fun o => .leaf (outEx o.1, o.2.1, o.2.2))
  | _, _, _, _, _ => .fail
theorem ways_sem (lp : Loops) : ∀ fr σ p, (L_ways fr σ).run = some p → ∀ (K : Kt) r, K p.1 p.2.1 p.2.2 = some r → ∃ n, loopRun (envOf tab SpF [] lp []) Try.f19 0 σ.length n (cleanF (liveAt Try.f19 0) 0 fr) σ K = some r := by
  intro fr σ p h K r hK
  unfold L_ways at h
  split at h
  · rename_i ls a b g0 g3 g5 g7
    obtain ⟨hc, h'⟩ := T.chk_some h
    rw [Bool.and_eq_true] at hc
    obtain ⟨hl, hc⟩ := hc
    obtain ⟨o, ho, h'⟩ := T.bind_some h'
    have hp := T.leaf_some h'
    subst hp
    obtain ⟨nF, hn⟩ : ∃ nF, (iterT (ways_step ls a b) nF ((0, 0, 0, []))).run = T.run (.leaf (some 0, mkF 21 [(5, .sref .one 1 (wayTo ls a b 6).length [] 0 (wayTo ls a b 6).length)], [boxR a b, mkDyn .one (wayTo ls a b 6)])) := ways_closed ls a b hc
    rw [ho] at hn
    refine ⟨nF, ?_⟩
    have he : cleanF (liveAt Try.f19 0) 0 fr = ways_fr ls a b ((0, 0, 0, [])) := ways_enter ls a b _ _ _ _ fr hl g0 g3 g5 g7
    refine (iter_ok (base := 2) (ways_hr lp ls a b) K nF ((0, 0, 0, [])) _ _ (by rw [clean_clean]; exact he) (by kernel_rfl)).trans ?_
    rw [T.k_run hn]
    exact hK
  · simp [T.run_fail] at h
theorem ways_loopOk (lp : Loops) (hk : Loops.get lp 3 = some L_ways) : LoopOk (envOf tab SpF [] lp []) (loopAt Try.f19 0).1 (loopAt Try.f19 0).2 := loop_ok (L := L_ways) hk (ways_sem lp)

def ways_v0 (ls : List D) (a : Int) (b : Int) : List D := seg (wayTo ls a b (6 : Nat)) (0 : Nat) (List.length (wayTo ls a b (6 : Nat)))
def ways_pre (ls : List D) (a : Int) (b : Int) : Bool := okX ls && Nat.beq (List.length (wayTo ls a b (6 : Nat))) (List.length (wayTo ls a b (6 : Nat)))
def C_ways : FunT := fun args σ => match args, σ with
  | [AV.dat (D.slc (Sh.agg [Sh.one, Sh.agg [Sh.one, Sh.one], Sh.agg [Sh.one, Sh.one], Sh.one]) ls), AV.dat (D.agg [D.int IntKind.i64 a, D.int IntKind.i64 b])], [] => .chk ((ways_pre ls a b)) (.leaf ([AV.dat (D.slc Sh.one (ways_v0 ls a b))], []))
  | _, _ => .fail
theorem ways_raw0 (ls : List D) (a b : Int) : runF (envOf tab SpF [] [(3, L_ways)] [(2, 0, [.own 5])]) true Try.f19 [.dat (.slc (.agg [.one, .agg [.one, .one], .agg [.one, .one], .one]) ls), .dat (.agg [.int .i64 a, .int .i64 b])] [] =
  (bif okX ls then 
   (bif Nat.beq (List.length (wayTo ls a b (6 : Nat))) (List.length (wayTo ls a b (6 : Nat))) then some ([AV.dat (D.slc Sh.one (seg (wayTo ls a b (6 : Nat)) (0 : Nat) (List.length (wayTo ls a b (6 : Nat)))))], []) else none) else none) := by kernel_rfl
theorem ways_case0 (ls : List D) (a b : Int) : runF (envOf tab SpF [] [(3, L_ways)] [(2, 0, [.own 5])]) true Try.f19 [.dat (.slc (.agg [.one, .agg [.one, .one], .agg [.one, .one], .one]) ls), .dat (.agg [.int .i64 a, .int .i64 b])] [] = FunT.run C_ways [.dat (.slc (.agg [.one, .agg [.one, .one], .agg [.one, .one], .one]) ls), .dat (.agg [.int .i64 a, .int .i64 b])] [] := (ways_raw0 ls a b).trans (by
  show _ = (cond (okX ls && Nat.beq (List.length (wayTo ls a b (6 : Nat))) (List.length (wayTo ls a b (6 : Nat)))) (some (([AV.dat (D.slc Sh.one (seg (wayTo ls a b (6 : Nat)) (0 : Nat) (List.length (wayTo ls a b (6 : Nat)))))], []) : Res)) none)
  generalize (okX ls) = z0
  cases z0 with
  | true =>
   generalize (Nat.beq (List.length (wayTo ls a b (6 : Nat))) (List.length (wayTo ls a b (6 : Nat)))) = z1
   cases z1 with
   | true =>
    rfl
   | false =>
    rfl
  | false =>
   rfl
  )
theorem cways_ok : FunOk Try.prog 19 (FunT.run C_ways) := by
  refine fun_ok (E := envOf tab SpF [] [(3, L_ways)] [(2, 0, [.own 5])]) (fz := true) (fn := Try.f19) (envOf_ok progOk SpF_ok) (by kernel_rfl) (by kernel_rfl) (loops_one (by kernel_rfl) (ways_loopOk _ rfl)) ?_
  intro args σ r h
  unfold C_ways at h
  split at h
  · exact (ways_case0 _ _ _).trans h
  · simp [T.run_fail] at h


end Go.Proofs.Ytiegehdiffemlaa
